/- The law FnExactNatInt answers true at all digits: both come to what the digits are worth, if that is less than the 62nd power of 2. -/
import Derived.Test.YtohplbcbkggjaaaPFnExactNatIntx3
import Derived.Test.YtohplbcbkggjaaaMDig
import Derived.Test.YtohplbcbkggjaaaMBits
namespace Go.Proofs.Ytohplbcbkggjaaa.Pure
open Go.RowKit Go.Proofs.Ytohplbcbkggjaaa.PFnExactNatInt Go.Proofs.YtohplbcbkggjaaaW.PrintWords Go.Proofs.YtohplbcbkggjaaaW.PrintLast Go.Proofs.Ytohplbcbkggjaaa.Plain

set_option linter.unusedVariables false
set_option linter.unusedSimpArgs false

theorem w64 {n : Int} (h : -9223372036854775808 ≤ n) (h' : n ≤ 9223372036854775807) : wrap64 n = n := by
  unfold wrap64
  omega

theorem wf64 {n : Int} (h : (Lit.int .i64 n).wf = true) : -9223372036854775808 ≤ n ∧ n ≤ 9223372036854775807 := by
  simpa [Lit.wf, IntKind.min, IntKind.max, IntKind.signed, IntKind.bits] using h

theorem wsucc {i : Nat} (h : i ≤ 1099511627776) : wrap64 ((i : Int) + 1) = ((i + 1 : Nat) : Int) := by
  rw [w64 (by omega) (by omega)]
  omega

theorem wpred {i : Nat} (h : i ≤ 1099511627776) : wrap64 (((i + 1 : Nat) : Int) - 1) = (i : Int) := by
  rw [w64 (by omega) (by omega)]
  omega

theorem in_eq (n a b : Int) : spec_l1In.f n a b = some (decide (a ≤ n ∧ n ≤ b)) := by
  unfold spec_l1In.f
  by_cases h : n ≥ a
  · rw [if_pos h]
    have : a ≤ n := h
    simp [this]
  · rw [if_neg h]
    have : ¬ a ≤ n := h
    simp [this]

theorem within_eq (n a b : Int) : impl_within.f n a b = some (decide (a ≤ n ∧ n ≤ b)) := by
  unfold impl_within.f
  by_cases h : n ≥ a
  · rw [if_pos h]
    have : a ≤ n := h
    simp [this]
  · rw [if_neg h]
    have : ¬ a ≤ n := h
    simp [this]

theorem toIntS_loop (l : List Int) (hl : l.length ≤ 1099511627776) : ∀ (d : Nat) (x : List Int) (i : Int), 0 ≤ i → (l.length : Int) - i = d → x.length = l.length → (∀ j : Nat, (j : Int) < i → x.getD j 0 = l.getD j 0) →
    Ev (fun k => laws_toIntS.l0 k l x i) l := by
  intro d
  induction d with
  | zero =>
    intro x i h0 hd hx he
    refine Ev.step (fun k => by rw [laws_toIntS.l0]) ?_
    simp only [if_neg (show ¬ i < (l.length : Int) by omega)]
    have : x = l := by
      apply List.ext_getElem hx
      intro j h1 h2
      have := he j (by omega)
      rwa [List.getD_eq_getElem?_getD, List.getD_eq_getElem?_getD, List.getElem?_eq_getElem h1, List.getElem?_eq_getElem h2] at this
    rw [this]
    exact Ev.now _
  | succ d ih =>
    intro x i h0 hd hx he
    refine Ev.step (fun k => by rw [laws_toIntS.l0]) ?_
    simp only [if_pos (show i < (l.length : Int) by omega), if_pos h0, hx]
    rw [w64 (n := i + 1) (by omega) (by omega)]
    refine ih _ (i + 1) (by omega) (by omega) (by simpa using hx) (fun j hj => ?_)
    unfold rd
    rw [List.getD_eq_getElem?_getD, List.getElem?_set]
    by_cases hji : i.toNat = j
    · subst hji
      rw [if_pos rfl, if_pos (by omega)]
      rfl
    · rw [if_neg hji, ← List.getD_eq_getElem?_getD]
      exact he j (by omega)

theorem toIntS_eq (l : List Int) (hl : l.length ≤ 1099511627776) : Ev (fun k => laws_toIntS.f k l) l := by
  unfold laws_toIntS.f
  simp only [if_pos (show 0 ≤ (l.length : Int) by omega), if_pos (show ((l.length : Int)).toNat ≤ 35184372088832 by omega)]
  exact toIntS_loop l hl l.length _ 0 (by omega) (by omega) (by simp) (fun j hj => by omega)

theorem eqIntS_loop (l : List Int) (hl : l.length ≤ 1099511627776) : ∀ (d : Nat) (i : Int), 0 ≤ i → (l.length : Int) - i = d → Ev (fun k => laws_eqIntS.l0 k l l i) true := by
  intro d
  induction d with
  | zero =>
    intro i h0 hd
    refine Ev.step (fun k => by rw [laws_eqIntS.l0]) ?_
    simp only [if_neg (show ¬ i < (l.length : Int) by omega)]
    exact Ev.now _
  | succ d ih =>
    intro i h0 hd
    refine Ev.step (fun k => by rw [laws_eqIntS.l0]) ?_
    simp only [if_pos (show i < (l.length : Int) by omega), if_pos h0, if_true]
    rw [w64 (n := i + 1) (by omega) (by omega)]
    exact ih (i + 1) (by omega) (by omega)

theorem eqIntS_eq (l : List Int) (hl : l.length ≤ 1099511627776) : Ev (fun k => laws_eqIntS.f k l l) true := by
  unfold laws_eqIntS.f
  simp only [if_true]
  exact eqIntS_loop l hl l.length 0 (by omega) (by omega)

theorem specNatOk_loop (l : List Int) (hl : l.length ≤ 1099511627776) : ∀ (d : Nat) (i : Int), 0 ≤ i → (l.length : Int) - i = d →
    Ev (fun k => spec_NatOk.l0 k l i) ((l.drop i.toNat).all (fun d => decide (0 ≤ d ∧ d ≤ 65535)) && decide (l.length ≤ 64) && (l.isEmpty || (l.getD (l.length - 1) 0 != 0))) := by
  intro d
  induction d with
  | zero =>
    intro i h0 hd
    refine Ev.step (fun k => by rw [spec_NatOk.l0]) ?_
    simp only [if_neg (show ¬ i < (l.length : Int) by omega)]
    rw [List.drop_eq_nil_of_le (by omega)]
    by_cases h1 : (l.length : Int) ≤ 64
    · simp only [if_pos h1, show l.length ≤ 64 by omega]
      by_cases h2 : (l.length : Int) = 0
      · obtain rfl : l = [] := List.length_eq_zero_iff.1 (by omega)
        simpa using Ev.now true
      · have e : wrap64 ((l.length : Int) - 1) = (l.length : Int) - 1 := w64 (by omega) (by omega)
        have hne : l.isEmpty = false := by cases l with | nil => simp at h2 | cons a l => rfl
        simp only [if_neg h2, e, if_pos (show 0 ≤ (l.length : Int) - 1 by omega), if_pos (show (l.length : Int) - 1 < l.length by omega), hne, rd, show ((l.length : Int) - 1).toNat = l.length - 1 by omega]
        simpa using Ev.now _
    · simp only [if_neg h1, show ¬ l.length ≤ 64 by omega]
      simpa using Ev.now false
  | succ d ih =>
    intro i h0 hd
    refine Ev.step (fun k => by rw [spec_NatOk.l0]) ?_
    have hi : i.toNat < l.length := by omega
    rw [List.drop_eq_getElem_cons hi, List.all_cons]
    have hr : rd l i = l[i.toNat] := by simp [rd, List.getD_eq_getElem?_getD, List.getElem?_eq_getElem hi]
    simp only [if_pos (show i < (l.length : Int) by omega), if_pos h0, in_eq, hr, Option.bind_some]
    by_cases h1 : 0 ≤ l[i.toNat] ∧ l[i.toNat] ≤ 65535
    · simp only [h1.1, h1.2, and_self, decide_true, if_true, Bool.true_and]
      rw [w64 (by omega) (by omega)]
      have := ih (i + 1) (by omega) (by omega)
      rwa [show (i + 1).toNat = i.toNat + 1 by omega] at this
    · simp only [h1, decide_false, Bool.false_and]
      simpa using Ev.now false

theorem specNatOk_eq (l : List Int) (hl : l.length ≤ 1099511627776) : Ev (fun k => spec_NatOk.f k l) (natOk l) := by
  unfold spec_NatOk.f natOk
  have := specNatOk_loop l hl l.length 0 (by omega) (by omega)
  rw [Int.toNat_zero, List.drop_zero] at this
  rwa [Bool.and_comm (decide (l.length ≤ 64))]

theorem allWithin_loop (l : List Int) (a b : Int) (hl : l.length ≤ 1099511627776) : ∀ (d : Nat) (i : Int), 0 ≤ i → (l.length : Int) - i = d →
    Ev (fun k => impl_allWithin.l0 k a b l (l.length : Int) i) ((l.drop i.toNat).all (fun d => decide (a ≤ d ∧ d ≤ b))) := by
  intro d
  induction d with
  | zero =>
    intro i h0 hd
    refine Ev.step (fun k => by rw [impl_allWithin.l0]) ?_
    simp only [if_neg (show ¬ i < (l.length : Int) by omega)]
    rw [List.drop_eq_nil_of_le (by omega)]
    exact Ev.now _
  | succ d ih =>
    intro i h0 hd
    refine Ev.step (fun k => by rw [impl_allWithin.l0]) ?_
    have hi : i.toNat < l.length := by omega
    rw [List.drop_eq_getElem_cons hi, List.all_cons]
    have hr : rd l i = l[i.toNat] := by simp [rd, List.getD_eq_getElem?_getD, List.getElem?_eq_getElem hi]
    simp only [if_pos (show i < (l.length : Int) by omega), if_pos h0, within_eq, hr, Option.bind_some]
    by_cases h1 : a ≤ l[i.toNat] ∧ l[i.toNat] ≤ b
    · simp only [h1.1, h1.2, and_self, decide_true, if_true, Bool.true_and]
      rw [w64 (by omega) (by omega)]
      have := ih (i + 1) (by omega) (by omega)
      rwa [show (i + 1).toNat = i.toNat + 1 by omega] at this
    · simp only [h1, decide_false, Bool.false_and]
      simpa using Ev.now false

theorem allWithin_eq (l : List Int) (a b : Int) (hl : l.length ≤ 1099511627776) : Ev (fun k => impl_allWithin.f k l a b) (l.all (fun d => decide (a ≤ d ∧ d ≤ b))) := by
  unfold impl_allWithin.f
  have := allWithin_loop l a b hl l.length 0 (by omega) (by omega)
  rwa [Int.toNat_zero, List.drop_zero] at this

theorem implNatOk_eq (l : List Int) (hl : l.length ≤ 1099511627776) : Ev (fun k => impl_NatOk.f k l) (natOk l) := by
  unfold impl_NatOk.f natOk
  by_cases h1 : (l.length : Int) ≤ 64
  · simp only [if_pos h1, show l.length ≤ 64 by omega, decide_true, Bool.true_and]
    refine Ev.bind (allWithin_eq l 0 65535 hl) ?_
    by_cases h3 : l.all (fun d => decide (0 ≤ d ∧ d ≤ 65535)) = true
    · simp only [h3, if_true, Bool.true_and]
      by_cases h2 : (l.length : Int) = 0
      · obtain rfl : l = [] := List.length_eq_zero_iff.1 (by omega)
        simpa using Ev.now true
      · have e : wrap64 ((l.length : Int) - 1) = (l.length : Int) - 1 := w64 (by omega) (by omega)
        have hne : l.isEmpty = false := by cases l with | nil => simp at h2 | cons a l => rfl
        simp only [if_neg h2, e, if_pos (show 0 ≤ (l.length : Int) - 1 by omega), if_pos (show (l.length : Int) - 1 < l.length by omega), hne, rd, show ((l.length : Int) - 1).toNat = l.length - 1 by omega]
        simpa using Ev.now _
    · simp only [h3, Bool.false_and]
      simpa using Ev.now false
  · simp only [if_neg h1, show ¬ l.length ≤ 64 by omega]
    simpa using Ev.now false

def tab8 : ByteArray := ⟨#[0, 1, 2, 2, 3, 3, 3, 3, 4, 4, 4, 4, 4, 4, 4, 4, 5, 5, 5, 5, 5, 5, 5, 5, 5, 5, 5, 5, 5, 5, 5, 5, 6, 6, 6, 6, 6, 6, 6, 6, 6, 6, 6, 6, 6, 6, 6, 6, 6, 6, 6, 6, 6, 6, 6, 6, 6, 6, 6, 6, 6, 6, 6, 6, 7, 7, 7, 7, 7, 7, 7, 7, 7, 7, 7, 7, 7, 7, 7, 7, 7, 7, 7, 7, 7, 7, 7, 7, 7, 7, 7, 7, 7, 7, 7, 7, 7, 7, 7, 7, 7, 7, 7, 7, 7, 7, 7, 7, 7, 7, 7, 7, 7, 7, 7, 7, 7, 7, 7, 7, 7, 7, 7, 7, 7, 7, 7, 7, 8, 8, 8, 8, 8, 8, 8, 8, 8, 8, 8, 8, 8, 8, 8, 8, 8, 8, 8, 8, 8, 8, 8, 8, 8, 8, 8, 8, 8, 8, 8, 8, 8, 8, 8, 8, 8, 8, 8, 8, 8, 8, 8, 8, 8, 8, 8, 8, 8, 8, 8, 8, 8, 8, 8, 8, 8, 8, 8, 8, 8, 8, 8, 8, 8, 8, 8, 8, 8, 8, 8, 8, 8, 8, 8, 8, 8, 8, 8, 8, 8, 8, 8, 8, 8, 8, 8, 8, 8, 8, 8, 8, 8, 8, 8, 8, 8, 8, 8, 8, 8, 8, 8, 8, 8, 8, 8, 8, 8, 8, 8, 8, 8, 8, 8, 8, 8, 8, 8, 8, 8, 8, 8, 8, 8, 8, 8, 8]⟩

theorem tab8_all : ∀ n : Fin 256, bt tab8 ((n.val : Nat) : Int) = ((bl n.val : Nat) : Int) := by decide +kernel

set_option maxRecDepth 100000 in
theorem tab8_eq {x : Int} (h0 : 0 ≤ x) (h1 : x < 256) : bt (⟨#[0, 1, 2, 2, 3, 3, 3, 3, 4, 4, 4, 4, 4, 4, 4, 4, 5, 5, 5, 5, 5, 5, 5, 5, 5, 5, 5, 5, 5, 5, 5, 5, 6, 6, 6, 6, 6, 6, 6, 6, 6, 6, 6, 6, 6, 6, 6, 6, 6, 6, 6, 6, 6, 6, 6, 6, 6, 6, 6, 6, 6, 6, 6, 6, 7, 7, 7, 7, 7, 7, 7, 7, 7, 7, 7, 7, 7, 7, 7, 7, 7, 7, 7, 7, 7, 7, 7, 7, 7, 7, 7, 7, 7, 7, 7, 7, 7, 7, 7, 7, 7, 7, 7, 7, 7, 7, 7, 7, 7, 7, 7, 7, 7, 7, 7, 7, 7, 7, 7, 7, 7, 7, 7, 7, 7, 7, 7, 7, 8, 8, 8, 8, 8, 8, 8, 8, 8, 8, 8, 8, 8, 8, 8, 8, 8, 8, 8, 8, 8, 8, 8, 8, 8, 8, 8, 8, 8, 8, 8, 8, 8, 8, 8, 8, 8, 8, 8, 8, 8, 8, 8, 8, 8, 8, 8, 8, 8, 8, 8, 8, 8, 8, 8, 8, 8, 8, 8, 8, 8, 8, 8, 8, 8, 8, 8, 8, 8, 8, 8, 8, 8, 8, 8, 8, 8, 8, 8, 8, 8, 8, 8, 8, 8, 8, 8, 8, 8, 8, 8, 8, 8, 8, 8, 8, 8, 8, 8, 8, 8, 8, 8, 8, 8, 8, 8, 8, 8, 8, 8, 8, 8, 8, 8, 8, 8, 8, 8, 8, 8, 8, 8, 8, 8, 8, 8, 8]⟩ : ByteArray) x = ((bl x.toNat : Nat) : Int) := by
  have := tab8_all ⟨x.toNat, by omega⟩
  unfold tab8 at this
  rw [show (((⟨x.toNat, by omega⟩ : Fin 256).val : Nat) : Int) = x from by simp; omega] at this
  exact this

theorem blI {x : Int} (k : Nat) (h : (2 : Int) ^ k ≤ x) : ((bl x.toNat : Nat) : Int) = ((bl (x / 2 ^ k).toNat : Nat) : Int) + k := by
  have h1 := bl_shift k x.toNat (by have := two_pow_int k; omega)
  have h2 : (x / 2 ^ k).toNat = x.toNat / 2 ^ k := by
    have h3 : 0 < (2 : Int) ^ k := Int.pow_pos (by omega)
    obtain ⟨n, rfl⟩ : ∃ n : Nat, x = n := ⟨x.toNat, by omega⟩
    rw [← two_pow_int, Int.toNat_natCast, ← Int.natCast_ediv, Int.toNat_natCast]
  rw [h2, h1]
  omega

set_option maxRecDepth 100000 in
theorem len64_j0 {x c : Int} (h0 : 0 ≤ x) (h1 : x < 4294967296) (c0 : 0 ≤ c) (c1 : c ≤ 1000) : Ev (fun k => bits_Len64.j0 k x c) (c + ((bl x.toNat : Nat) : Int)) := by
  refine Ev.step (fun k => by rw [bits_Len64.j0]) ?_
  have blb : ∀ y : Int, 0 ≤ y → y < 256 → ((bl y.toNat : Nat) : Int) ≤ 8 := by
    intro y y0 y1
    have := bl_le (n := y.toNat) (k := 8) (by omega)
    omega
  by_cases p1 : x ≥ 65536
  · simp only [if_pos p1]
    have e1 := blI (x := x) 16 (by omega)
    by_cases p2 : x / 65536 ≥ 256
    · have e2 := blI (x := x / 65536) 8 (by omega)
      have r0 : 0 ≤ x / 65536 / 256 := by omega
      have r1 : x / 65536 / 256 < 256 := by omega
      have r2 : x / 65536 / 256 % 256 = x / 65536 / 256 := by omega
      have b := blb (x / 65536 / 256) (by omega) (by omega)
      simp only [if_pos p2, r2, if_pos r0, if_pos r1, tab8_eq r0 r1]
      rw [w64 (n := ((bl (x / 65536 / 256).toNat : Nat) : Int)) (by omega) (by omega), w64 (n := c + 16) (by omega) (by omega), w64 (n := c + 16 + 8) (by omega) (by omega), w64 (by omega) (by omega),
        show c + 16 + 8 + ((bl (x / 65536 / 256).toNat : Nat) : Int) = c + ((bl x.toNat : Nat) : Int) by simp only [show ((2 : Int) ^ 16) = 65536 by decide, show ((2 : Int) ^ 8) = 256 by decide] at e1 e2; omega]
      exact Ev.now _
    · have r0 : 0 ≤ x / 65536 := by omega
      have r1 : x / 65536 < 256 := by omega
      have r2 : x / 65536 % 256 = x / 65536 := by omega
      have b := blb (x / 65536) (by omega) (by omega)
      simp only [if_neg p2, r2, if_pos r0, if_pos r1, tab8_eq r0 r1]
      rw [w64 (n := ((bl (x / 65536).toNat : Nat) : Int)) (by omega) (by omega), w64 (n := c + 16) (by omega) (by omega), w64 (by omega) (by omega),
        show c + 16 + ((bl (x / 65536).toNat : Nat) : Int) = c + ((bl x.toNat : Nat) : Int) by simp only [show ((2 : Int) ^ 16) = 65536 by decide] at e1; omega]
      exact Ev.now _
  · simp only [if_neg p1]
    by_cases p2 : x ≥ 256
    · have e2 := blI (x := x) 8 (by omega)
      have r0 : 0 ≤ x / 256 := by omega
      have r1 : x / 256 < 256 := by omega
      have r2 : x / 256 % 256 = x / 256 := by omega
      have b := blb (x / 256) (by omega) (by omega)
      simp only [if_pos p2, r2, if_pos r0, if_pos r1, tab8_eq r0 r1]
      rw [w64 (n := ((bl (x / 256).toNat : Nat) : Int)) (by omega) (by omega), w64 (n := c + 8) (by omega) (by omega), w64 (by omega) (by omega),
        show c + 8 + ((bl (x / 256).toNat : Nat) : Int) = c + ((bl x.toNat : Nat) : Int) by simp only [show ((2 : Int) ^ 8) = 256 by decide] at e2; omega]
      exact Ev.now _
    · have r0 : 0 ≤ x := by omega
      have r1 : x < 256 := by omega
      have r2 : x % 256 = x := by omega
      have b := blb x (by omega) (by omega)
      simp only [if_neg p2, r2, if_pos r0, if_pos r1, tab8_eq r0 r1]
      rw [w64 (n := ((bl x.toNat : Nat) : Int)) (by omega) (by omega), w64 (by omega) (by omega)]
      exact Ev.now _

theorem len_eq {x : Int} (h0 : 0 ≤ x) (h1 : x < 18446744073709551616) : Ev (fun k => bits_Len.f k x) ((bl x.toNat : Nat) : Int) := by
  unfold bits_Len.f bits_Len64.f
  by_cases p : x ≥ 4294967296
  · simp only [if_pos p]
    have e := blI (x := x) 32 (by omega)
    have := len64_j0 (x := x / 4294967296) (c := 32) (by omega) (by omega) (by omega) (by omega)
    rw [show 32 + ((bl (x / 4294967296).toNat : Nat) : Int) = ((bl x.toNat : Nat) : Int) by simp only [show ((2 : Int) ^ 32) = 4294967296 by decide] at e; omega] at this
    exact Ev.bind this (Ev.now _)
  · simp only [if_neg p]
    have := len64_j0 (x := x) (c := 0) (by omega) (by omega) (by omega) (by omega)
    rw [Int.zero_add] at this
    exact Ev.bind this (Ev.now _)

theorem u64w {x : Int} (h0 : 0 ≤ x) (h1 : x < 18446744073709551616) : IntKind.u64.wrap x = x := by
  rw [show IntKind.u64.wrap x = x % 18446744073709551616 from by simp [IntKind.wrap, IntKind.bits, IntKind.signed]]
  omega

/-- The bits of digits. -/
def nbits (l : List Int) : Int := if l.length = 0 then 0 else 16 * ((l.length : Int) - 1) + ((bl (l.getD (l.length - 1) 0).toNat : Nat) : Int)

theorem implBits_eq {l : List Int} (h : Dg l) (hl : l.length ≤ 1048576) : Ev (fun k => impl_natBits.f k l) (nbits l) := by
  unfold impl_natBits.f nbits
  by_cases h0 : l.length = 0
  · simp only [h0, Int.natCast_zero, if_true]
    exact Ev.now _
  · have b := h.getD (l.length - 1)
    have bb := bl_le (n := (l.getD (l.length - 1) 0).toNat) (k := 16) (by omega)
    have e : wrap64 ((l.length : Int) - 1) = (l.length : Int) - 1 := w64 (by omega) (by omega)
    have q0 : 0 ≤ (l.length : Int) - 1 := by clear e; omega
    have q1 : (l.length : Int) - 1 < l.length := by clear e; omega
    have q2 : ¬ (l.length : Int) = 0 := by clear e; omega
    have q3 : ((l.length : Int) - 1).toNat = l.length - 1 := by clear e; omega
    simp only [if_neg h0, if_neg q2, e, if_pos q0, if_pos q1, rd, q3]
    clear e
    rw [u64w (by omega) (by omega)]
    refine Ev.bind (len_eq (by omega) (by omega)) ?_
    rw [w64 (n := 16 * ((l.length : Int) - 1)) (by omega) (by omega), w64 (by omega) (by omega)]
    exact Ev.now _

theorem impl_loop {l : List Int} (h : Dg l) (hl : l.length ≤ 4) (hv : val l < 4611686018427387904) : ∀ (n : Nat) (c i : Int), i = (n : Int) - 1 → n ≤ l.length → c = val (l.drop n) →
    Ev (fun k => impl_NatInt.l0 k l c i) (val l, true) := by
  intro n
  induction n with
  | zero =>
    intro c i hi hn hc
    refine Ev.step (fun k => by rw [impl_NatInt.l0]) ?_
    simp only [if_neg (show ¬ i ≥ 0 by omega)]
    rw [hc, List.drop_zero]
    exact Ev.now _
  | succ n ih =>
    intro c i hi hn hc
    have b := h.getD n
    have e : val (l.drop n) = l.getD n 0 + 65536 * c := by
      rw [List.drop_eq_getElem_cons (show n < l.length by omega), val, hc, List.getD_eq_getElem?_getD, List.getElem?_eq_getElem (show n < l.length by omega), Option.getD_some]
    have bd : val (l.drop n) ≤ val l := by
      have h1 := val_append (l.take n) (l.drop n)
      rw [List.take_append_drop] at h1
      have h2 := val_nonneg (h.take n)
      have h3 := val_nonneg (h.drop n)
      have h4 : (1 : Int) * val (l.drop n) ≤ 65536 ^ (l.take n).length * val (l.drop n) := Int.mul_le_mul_of_nonneg_right (by have := pow_pos' (l.take n).length; omega) h3
      omega
    have c0 : 0 ≤ c := by rw [hc]; exact val_nonneg (h.drop _)
    have := ih (val (l.drop n)) (i - 1) (by omega) (by omega) rfl
    refine Ev.step (fun k => by rw [impl_NatInt.l0]) ?_
    have hr : i.toNat = n := by omega
    simp only [if_pos (show i ≥ 0 by omega), if_pos (show 0 ≤ i by omega), if_pos (show i < (l.length : Int) by omega), rd, hr]
    rw [w64 (n := i - 1) (by omega) (by omega), w64 (n := c * 65536) (by omega) (by omega), show c * 65536 + l.getD n 0 = val (l.drop n) by omega, w64 (by omega) (by omega)]
    exact this

theorem spec_loop {l : List Int} (h : Dg l) (hl : l.length ≤ 4) (hv : val l < 4611686018427387904) : ∀ (n : Nat) (c i : Int), i = (n : Int) - 1 → n ≤ l.length → c = val (l.drop n) →
    Ev (fun k => spec_NatInt.l0 k l c i) (val l, true) := by
  intro n
  induction n with
  | zero =>
    intro c i hi hn hc
    refine Ev.step (fun k => by rw [spec_NatInt.l0]) ?_
    simp only [if_neg (show ¬ i ≥ 0 by omega)]
    rw [hc, List.drop_zero]
    exact Ev.now _
  | succ n ih =>
    intro c i hi hn hc
    have b := h.getD n
    have e : val (l.drop n) = l.getD n 0 + 65536 * c := by
      rw [List.drop_eq_getElem_cons (show n < l.length by omega), val, hc, List.getD_eq_getElem?_getD, List.getElem?_eq_getElem (show n < l.length by omega), Option.getD_some]
    have bd : val (l.drop n) ≤ val l := by
      have h1 := val_append (l.take n) (l.drop n)
      rw [List.take_append_drop] at h1
      have h2 := val_nonneg (h.take n)
      have h3 := val_nonneg (h.drop n)
      have h4 : (1 : Int) * val (l.drop n) ≤ 65536 ^ (l.take n).length * val (l.drop n) := Int.mul_le_mul_of_nonneg_right (by have := pow_pos' (l.take n).length; omega) h3
      omega
    have c0 : 0 ≤ c := by rw [hc]; exact val_nonneg (h.drop _)
    have := ih (val (l.drop n)) (i - 1) (by omega) (by omega) rfl
    refine Ev.step (fun k => by rw [spec_NatInt.l0]) ?_
    have hr : i.toNat = n := by omega
    simp only [if_pos (show i ≥ 0 by omega), if_pos (show 0 ≤ i by omega), if_pos (show i < (l.length : Int) by omega), rd, hr]
    rw [w64 (n := i - 1) (by omega) (by omega), w64 (n := c * 65536) (by omega) (by omega), show c * 65536 + l.getD n 0 = val (l.drop n) by omega, w64 (by omega) (by omega)]
    exact this

theorem val4 {l : List Int} (h : Dg l) (hl : l.length = 4) : ∃ u, 0 ≤ u ∧ u < 281474976710656 ∧ val l = u + 281474976710656 * l.getD 3 0 := by
  match l, hl with
  | [a, b, c, d], _ =>
    have h1 := h a (by simp)
    have h2 := h b (by simp)
    have h3 := h c (by simp)
    refine ⟨a + 65536 * (b + 65536 * c), by omega, by omega, ?_⟩
    simp [val]
    omega

theorem bits62 {l : List Int} (h : Dg l) (hn : Nm l) : nbits l > 62 ↔ (l.length > 4 ∨ l.length = 4 ∧ l.getD 3 0 ≥ 16384) := by
  unfold nbits
  by_cases h0 : l.length = 0
  · rw [if_pos h0]; omega
  · rw [if_neg h0]
    have b := h.getD (l.length - 1)
    have hne : l.getD (l.length - 1) 0 ≠ 0 := by
      intro e
      apply hn
      rw [List.getLast?_eq_getElem?, List.getElem?_eq_getElem (by omega)]
      rw [List.getD_eq_getElem?_getD, List.getElem?_eq_getElem (by omega)] at e
      simpa using e
    have bb := bl_le (n := (l.getD (l.length - 1) 0).toNat) (k := 16) (by omega)
    have bp : 1 ≤ bl (l.getD (l.length - 1) 0).toNat := by rw [bl_pos (by omega)]; omega
    by_cases h4 : l.length = 4
    · have e3 : l.length - 1 = 3 := by omega
      rw [e3] at bb bp b hne ⊢
      have q1 : bl (l.getD 3 0).toNat > 14 ↔ l.getD 3 0 ≥ 16384 := by
        constructor
        · intro k
          rcases Int.lt_or_le (l.getD 3 0) 16384 with k2 | k2
          · have := bl_le (n := (l.getD 3 0).toNat) (k := 14) (by omega)
            omega
          · exact k2
        · intro k
          rcases Nat.lt_or_ge 14 (bl (l.getD 3 0).toNat) with k2 | k2
          · exact k2
          · have := lt_of_bl k2
            omega
      omega
    · omega

theorem FnExactNatInt : laws_FnExactNatInt.Pure := by
  intro a _ _ _
  refine Ev.rounds (r := true) ?_
  unfold laws_FnExactNatInt.f
  by_cases h : (a.length : Int) > 1048576
  · simp only [if_pos h]; exact Ev.now _
  simp only [if_neg h]
  have ta := toIntS_eq a (by omega)
  have ea := eqIntS_eq a (by omega)
  have os := specNatOk_eq a (by omega)
  have oi := implNatOk_eq a (by omega)
  have js : Ev (fun k => spec_NatInt.j0 k a true) (0, false) := Ev.step (fun k => by rw [spec_NatInt.j0]) (by simp only [if_true]; exact Ev.now _)
  have ji : Ev (fun k => impl_NatInt.j0 k a true) (0, false) := Ev.step (fun k => by rw [impl_NatInt.j0]) (by simp only [if_true]; exact Ev.now _)
  obtain ⟨r, bb, r1, r2⟩ : ∃ r bb, Ev (fun k => spec_NatInt.f k a) (r, bb) ∧ Ev (fun k => impl_NatInt.f k a) (r, bb) := by
    unfold spec_NatInt.f impl_NatInt.f
    cases ka : natOk a with
    | false =>
      rw [ka] at os oi
      refine ⟨0, false, Ev.bind os ?_, Ev.bind oi ?_⟩
      · simpa using js
      · simpa using ji
    | true =>
      rw [ka] at os oi
      obtain ⟨la, da, na⟩ := (natOk_iff a).1 ka
      have hb := bits62 da na
      have ib := implBits_eq da (show a.length ≤ 1048576 by omega)
      by_cases hc : a.length > 4 ∨ a.length = 4 ∧ a.getD 3 0 ≥ 16384
      · refine ⟨0, false, Ev.bind os ?_, Ev.bind oi ?_⟩
        · simp only [if_true]
          by_cases h4 : a.length > 4
          · simp only [if_pos (show (a.length : Int) > 4 by omega)]; exact js
          · obtain ⟨h5, h6⟩ : a.length = 4 ∧ a.getD 3 0 ≥ 16384 := by omega
            simp only [if_neg (show ¬ (a.length : Int) > 4 by omega), if_pos (show (a.length : Int) = 4 by omega), if_pos (show 3 < (a.length : Int) by omega), rd, show (3 : Int).toNat = 3 by rfl, h6, decide_true]
            exact js
        · simp only [if_true]
          refine Ev.bind ib ?_
          simp only [hb.2 hc, decide_true]
          exact ji
      · have hv : val a < 4611686018427387904 := by
          by_cases h4 : a.length = 4
          · obtain ⟨u, u0, u1, hu⟩ := val4 da h4
            omega
          · have h5 := val_lt da
            have h6 : (65536 : Int) ^ a.length ≤ 65536 ^ 3 := pow_mono (by omega)
            omega
        have jsf : Ev (fun k => spec_NatInt.j0 k a false) (val a, true) := by
          refine Ev.step (fun k => by rw [spec_NatInt.j0]) ?_
          simp only [Bool.false_eq_true, if_false]
          rw [w64 (by omega) (by omega)]
          exact spec_loop da (by omega) hv a.length 0 _ rfl (Nat.le_refl _) (by simp [val])
        have jif : Ev (fun k => impl_NatInt.j0 k a false) (val a, true) := by
          refine Ev.step (fun k => by rw [impl_NatInt.j0]) ?_
          simp only [Bool.false_eq_true, if_false]
          rw [w64 (by omega) (by omega)]
          exact impl_loop da (by omega) hv a.length 0 _ rfl (Nat.le_refl _) (by simp [val])
        refine ⟨val a, true, Ev.bind os ?_, Ev.bind oi ?_⟩
        · simp only [if_true, if_neg (show ¬ (a.length : Int) > 4 by omega)]
          by_cases h4 : a.length = 4
          · have h6 : ¬ a.getD 3 0 ≥ 16384 := by omega
            simp only [if_pos (show (a.length : Int) = 4 by omega), if_pos (show 3 < (a.length : Int) by omega), rd, show (3 : Int).toNat = 3 by rfl, h6, decide_false]
            exact jsf
          · simp only [if_neg (show ¬ (a.length : Int) = 4 by omega)]
            exact jsf
        · simp only [if_true]
          refine Ev.bind ib ?_
          have : ¬ nbits a > 62 := fun k => hc (hb.1 k)
          simp only [this, decide_false]
          exact jif
  refine Ev.bind ta (Ev.bind r1 (Ev.bind ta (Ev.bind r2 ?_)))
  simp only [if_true, bne_self_eq_false]
  refine Ev.step (fun k => by rw [laws_FnExactNatInt.j0]) ?_
  simp only [Bool.false_eq_true, if_false]
  refine Ev.bind ta (Ev.bind ea ?_)
  simp only [if_true]
  exact Ev.now _

end Go.Proofs.Ytohplbcbkggjaaa.Pure
