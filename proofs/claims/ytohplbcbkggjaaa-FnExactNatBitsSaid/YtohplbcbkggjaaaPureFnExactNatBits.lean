/- The law FnExactNatBits answers true at all digits: both count the same bits. -/
import Derived.Test.YtohplbcbkggjaaaPFnExactNatBitsx2
import Derived.Test.YtohplbcbkggjaaaMDig
import Derived.Test.YtohplbcbkggjaaaMBits
namespace Go.Proofs.Ytohplbcbkggjaaa.Pure
open Go.RowKit Go.Proofs.Ytohplbcbkggjaaa.PFnExactNatBits Go.Proofs.YtohplbcbkggjaaaW.PrintWords Go.Proofs.YtohplbcbkggjaaaW.PrintLast Go.Proofs.Ytohplbcbkggjaaa.Plain

set_option linter.unusedVariables false
set_option linter.unusedSimpArgs false

theorem w64 {n : Int} (h : -9223372036854775808 ≤ n) (h' : n ≤ 9223372036854775807) : wrap64 n = n := by
  unfold wrap64
  omega

theorem wf64 {n : Int} (h : (Lit.int .i64 n).wf = true) : -9223372036854775808 ≤ n ∧ n ≤ 9223372036854775807 := by
  simpa [Lit.wf, IntKind.min, IntKind.max, IntKind.signed, IntKind.bits] using h

theorem wsucc {i : Nat} (h : i ≤ 1099511627776) : wrap64 ((i : Int) + 1) = ((i + 1 : Nat) : Int) := by
  rw [w64 (by omega) (by omega)]
  omega

theorem wpred {i : Nat} (h : i ≤ 1099511627776) : wrap64 (((i + 1 : Nat) : Int) - 1) = (i : Int) := by
  rw [w64 (by omega) (by omega)]
  omega

theorem in_eq (n a b : Int) : spec_l1In.f n a b = some (decide (a ≤ n ∧ n ≤ b)) := by
  unfold spec_l1In.f
  by_cases h : n ≥ a
  · rw [if_pos h]
    have : a ≤ n := h
    simp [this]
  · rw [if_neg h]
    have : ¬ a ≤ n := h
    simp [this]

theorem within_eq (n a b : Int) : impl_within.f n a b = some (decide (a ≤ n ∧ n ≤ b)) := by
  unfold impl_within.f
  by_cases h : n ≥ a
  · rw [if_pos h]
    have : a ≤ n := h
    simp [this]
  · rw [if_neg h]
    have : ¬ a ≤ n := h
    simp [this]

theorem toIntS_loop (l : List Int) (hl : l.length ≤ 1099511627776) : ∀ (d : Nat) (x : List Int) (i : Int), 0 ≤ i → (l.length : Int) - i = d → x.length = l.length → (∀ j : Nat, (j : Int) < i → x.getD j 0 = l.getD j 0) →
    Ev (fun k => laws_toIntS.l0 k l x i) l := by
  intro d
  induction d with
  | zero =>
    intro x i h0 hd hx he
    refine Ev.step (fun k => by rw [laws_toIntS.l0]) ?_
    simp only [if_neg (show ¬ i < (l.length : Int) by omega)]
    have : x = l := by
      apply List.ext_getElem hx
      intro j h1 h2
      have := he j (by omega)
      rwa [List.getD_eq_getElem?_getD, List.getD_eq_getElem?_getD, List.getElem?_eq_getElem h1, List.getElem?_eq_getElem h2] at this
    rw [this]
    exact Ev.now _
  | succ d ih =>
    intro x i h0 hd hx he
    refine Ev.step (fun k => by rw [laws_toIntS.l0]) ?_
    simp only [if_pos (show i < (l.length : Int) by omega), if_pos h0, hx]
    rw [w64 (n := i + 1) (by omega) (by omega)]
    refine ih _ (i + 1) (by omega) (by omega) (by simpa using hx) (fun j hj => ?_)
    unfold rd
    rw [List.getD_eq_getElem?_getD, List.getElem?_set]
    by_cases hji : i.toNat = j
    · subst hji
      rw [if_pos rfl, if_pos (by omega)]
      rfl
    · rw [if_neg hji, ← List.getD_eq_getElem?_getD]
      exact he j (by omega)

theorem toIntS_eq (l : List Int) (hl : l.length ≤ 1099511627776) : Ev (fun k => laws_toIntS.f k l) l := by
  unfold laws_toIntS.f
  simp only [if_pos (show 0 ≤ (l.length : Int) by omega), if_pos (show ((l.length : Int)).toNat ≤ 35184372088832 by omega)]
  exact toIntS_loop l hl l.length _ 0 (by omega) (by omega) (by simp) (fun j hj => by omega)

theorem eqIntS_loop (l : List Int) (hl : l.length ≤ 1099511627776) : ∀ (d : Nat) (i : Int), 0 ≤ i → (l.length : Int) - i = d → Ev (fun k => laws_eqIntS.l0 k l l i) true := by
  intro d
  induction d with
  | zero =>
    intro i h0 hd
    refine Ev.step (fun k => by rw [laws_eqIntS.l0]) ?_
    simp only [if_neg (show ¬ i < (l.length : Int) by omega)]
    exact Ev.now _
  | succ d ih =>
    intro i h0 hd
    refine Ev.step (fun k => by rw [laws_eqIntS.l0]) ?_
    simp only [if_pos (show i < (l.length : Int) by omega), if_pos h0, if_true]
    rw [w64 (n := i + 1) (by omega) (by omega)]
    exact ih (i + 1) (by omega) (by omega)

theorem eqIntS_eq (l : List Int) (hl : l.length ≤ 1099511627776) : Ev (fun k => laws_eqIntS.f k l l) true := by
  unfold laws_eqIntS.f
  simp only [if_true]
  exact eqIntS_loop l hl l.length 0 (by omega) (by omega)

theorem specNatOk_loop (l : List Int) (hl : l.length ≤ 1099511627776) : ∀ (d : Nat) (i : Int), 0 ≤ i → (l.length : Int) - i = d →
    Ev (fun k => spec_NatOk.l0 k l i) ((l.drop i.toNat).all (fun d => decide (0 ≤ d ∧ d ≤ 65535)) && decide (l.length ≤ 64) && (l.isEmpty || (l.getD (l.length - 1) 0 != 0))) := by
  intro d
  induction d with
  | zero =>
    intro i h0 hd
    refine Ev.step (fun k => by rw [spec_NatOk.l0]) ?_
    simp only [if_neg (show ¬ i < (l.length : Int) by omega)]
    rw [List.drop_eq_nil_of_le (by omega)]
    by_cases h1 : (l.length : Int) ≤ 64
    · simp only [if_pos h1, show l.length ≤ 64 by omega]
      by_cases h2 : (l.length : Int) = 0
      · obtain rfl : l = [] := List.length_eq_zero_iff.1 (by omega)
        simpa using Ev.now true
      · have e : wrap64 ((l.length : Int) - 1) = (l.length : Int) - 1 := w64 (by omega) (by omega)
        have hne : l.isEmpty = false := by cases l with | nil => simp at h2 | cons a l => rfl
        simp only [if_neg h2, e, if_pos (show 0 ≤ (l.length : Int) - 1 by omega), if_pos (show (l.length : Int) - 1 < l.length by omega), hne, rd, show ((l.length : Int) - 1).toNat = l.length - 1 by omega]
        simpa using Ev.now _
    · simp only [if_neg h1, show ¬ l.length ≤ 64 by omega]
      simpa using Ev.now false
  | succ d ih =>
    intro i h0 hd
    refine Ev.step (fun k => by rw [spec_NatOk.l0]) ?_
    have hi : i.toNat < l.length := by omega
    rw [List.drop_eq_getElem_cons hi, List.all_cons]
    have hr : rd l i = l[i.toNat] := by simp [rd, List.getD_eq_getElem?_getD, List.getElem?_eq_getElem hi]
    simp only [if_pos (show i < (l.length : Int) by omega), if_pos h0, in_eq, hr, Option.bind_some]
    by_cases h1 : 0 ≤ l[i.toNat] ∧ l[i.toNat] ≤ 65535
    · simp only [h1.1, h1.2, and_self, decide_true, if_true, Bool.true_and]
      rw [w64 (by omega) (by omega)]
      have := ih (i + 1) (by omega) (by omega)
      rwa [show (i + 1).toNat = i.toNat + 1 by omega] at this
    · simp only [h1, decide_false, Bool.false_and]
      simpa using Ev.now false

theorem specNatOk_eq (l : List Int) (hl : l.length ≤ 1099511627776) : Ev (fun k => spec_NatOk.f k l) (natOk l) := by
  unfold spec_NatOk.f natOk
  have := specNatOk_loop l hl l.length 0 (by omega) (by omega)
  rw [Int.toNat_zero, List.drop_zero] at this
  rwa [Bool.and_comm (decide (l.length ≤ 64))]

theorem allWithin_loop (l : List Int) (a b : Int) (hl : l.length ≤ 1099511627776) : ∀ (d : Nat) (i : Int), 0 ≤ i → (l.length : Int) - i = d →
    Ev (fun k => impl_allWithin.l0 k a b l (l.length : Int) i) ((l.drop i.toNat).all (fun d => decide (a ≤ d ∧ d ≤ b))) := by
  intro d
  induction d with
  | zero =>
    intro i h0 hd
    refine Ev.step (fun k => by rw [impl_allWithin.l0]) ?_
    simp only [if_neg (show ¬ i < (l.length : Int) by omega)]
    rw [List.drop_eq_nil_of_le (by omega)]
    exact Ev.now _
  | succ d ih =>
    intro i h0 hd
    refine Ev.step (fun k => by rw [impl_allWithin.l0]) ?_
    have hi : i.toNat < l.length := by omega
    rw [List.drop_eq_getElem_cons hi, List.all_cons]
    have hr : rd l i = l[i.toNat] := by simp [rd, List.getD_eq_getElem?_getD, List.getElem?_eq_getElem hi]
    simp only [if_pos (show i < (l.length : Int) by omega), if_pos h0, within_eq, hr, Option.bind_some]
    by_cases h1 : a ≤ l[i.toNat] ∧ l[i.toNat] ≤ b
    · simp only [h1.1, h1.2, and_self, decide_true, if_true, Bool.true_and]
      rw [w64 (by omega) (by omega)]
      have := ih (i + 1) (by omega) (by omega)
      rwa [show (i + 1).toNat = i.toNat + 1 by omega] at this
    · simp only [h1, decide_false, Bool.false_and]
      simpa using Ev.now false

theorem allWithin_eq (l : List Int) (a b : Int) (hl : l.length ≤ 1099511627776) : Ev (fun k => impl_allWithin.f k l a b) (l.all (fun d => decide (a ≤ d ∧ d ≤ b))) := by
  unfold impl_allWithin.f
  have := allWithin_loop l a b hl l.length 0 (by omega) (by omega)
  rwa [Int.toNat_zero, List.drop_zero] at this

theorem implNatOk_eq (l : List Int) (hl : l.length ≤ 1099511627776) : Ev (fun k => impl_NatOk.f k l) (natOk l) := by
  unfold impl_NatOk.f natOk
  by_cases h1 : (l.length : Int) ≤ 64
  · simp only [if_pos h1, show l.length ≤ 64 by omega, decide_true, Bool.true_and]
    refine Ev.bind (allWithin_eq l 0 65535 hl) ?_
    by_cases h3 : l.all (fun d => decide (0 ≤ d ∧ d ≤ 65535)) = true
    · simp only [h3, if_true, Bool.true_and]
      by_cases h2 : (l.length : Int) = 0
      · obtain rfl : l = [] := List.length_eq_zero_iff.1 (by omega)
        simpa using Ev.now true
      · have e : wrap64 ((l.length : Int) - 1) = (l.length : Int) - 1 := w64 (by omega) (by omega)
        have hne : l.isEmpty = false := by cases l with | nil => simp at h2 | cons a l => rfl
        simp only [if_neg h2, e, if_pos (show 0 ≤ (l.length : Int) - 1 by omega), if_pos (show (l.length : Int) - 1 < l.length by omega), hne, rd, show ((l.length : Int) - 1).toNat = l.length - 1 by omega]
        simpa using Ev.now _
    · simp only [h3, Bool.false_and]
      simpa using Ev.now false
  · simp only [if_neg h1, show ¬ l.length ≤ 64 by omega]
    simpa using Ev.now false

def tab8 : ByteArray := ⟨#[0, 1, 2, 2, 3, 3, 3, 3, 4, 4, 4, 4, 4, 4, 4, 4, 5, 5, 5, 5, 5, 5, 5, 5, 5, 5, 5, 5, 5, 5, 5, 5, 6, 6, 6, 6, 6, 6, 6, 6, 6, 6, 6, 6, 6, 6, 6, 6, 6, 6, 6, 6, 6, 6, 6, 6, 6, 6, 6, 6, 6, 6, 6, 6, 7, 7, 7, 7, 7, 7, 7, 7, 7, 7, 7, 7, 7, 7, 7, 7, 7, 7, 7, 7, 7, 7, 7, 7, 7, 7, 7, 7, 7, 7, 7, 7, 7, 7, 7, 7, 7, 7, 7, 7, 7, 7, 7, 7, 7, 7, 7, 7, 7, 7, 7, 7, 7, 7, 7, 7, 7, 7, 7, 7, 7, 7, 7, 7, 8, 8, 8, 8, 8, 8, 8, 8, 8, 8, 8, 8, 8, 8, 8, 8, 8, 8, 8, 8, 8, 8, 8, 8, 8, 8, 8, 8, 8, 8, 8, 8, 8, 8, 8, 8, 8, 8, 8, 8, 8, 8, 8, 8, 8, 8, 8, 8, 8, 8, 8, 8, 8, 8, 8, 8, 8, 8, 8, 8, 8, 8, 8, 8, 8, 8, 8, 8, 8, 8, 8, 8, 8, 8, 8, 8, 8, 8, 8, 8, 8, 8, 8, 8, 8, 8, 8, 8, 8, 8, 8, 8, 8, 8, 8, 8, 8, 8, 8, 8, 8, 8, 8, 8, 8, 8, 8, 8, 8, 8, 8, 8, 8, 8, 8, 8, 8, 8, 8, 8, 8, 8, 8, 8, 8, 8, 8, 8]⟩

theorem tab8_all : ∀ n : Fin 256, bt tab8 ((n.val : Nat) : Int) = ((bl n.val : Nat) : Int) := by decide +kernel

set_option maxRecDepth 100000 in
theorem tab8_eq {x : Int} (h0 : 0 ≤ x) (h1 : x < 256) : bt (⟨#[0, 1, 2, 2, 3, 3, 3, 3, 4, 4, 4, 4, 4, 4, 4, 4, 5, 5, 5, 5, 5, 5, 5, 5, 5, 5, 5, 5, 5, 5, 5, 5, 6, 6, 6, 6, 6, 6, 6, 6, 6, 6, 6, 6, 6, 6, 6, 6, 6, 6, 6, 6, 6, 6, 6, 6, 6, 6, 6, 6, 6, 6, 6, 6, 7, 7, 7, 7, 7, 7, 7, 7, 7, 7, 7, 7, 7, 7, 7, 7, 7, 7, 7, 7, 7, 7, 7, 7, 7, 7, 7, 7, 7, 7, 7, 7, 7, 7, 7, 7, 7, 7, 7, 7, 7, 7, 7, 7, 7, 7, 7, 7, 7, 7, 7, 7, 7, 7, 7, 7, 7, 7, 7, 7, 7, 7, 7, 7, 8, 8, 8, 8, 8, 8, 8, 8, 8, 8, 8, 8, 8, 8, 8, 8, 8, 8, 8, 8, 8, 8, 8, 8, 8, 8, 8, 8, 8, 8, 8, 8, 8, 8, 8, 8, 8, 8, 8, 8, 8, 8, 8, 8, 8, 8, 8, 8, 8, 8, 8, 8, 8, 8, 8, 8, 8, 8, 8, 8, 8, 8, 8, 8, 8, 8, 8, 8, 8, 8, 8, 8, 8, 8, 8, 8, 8, 8, 8, 8, 8, 8, 8, 8, 8, 8, 8, 8, 8, 8, 8, 8, 8, 8, 8, 8, 8, 8, 8, 8, 8, 8, 8, 8, 8, 8, 8, 8, 8, 8, 8, 8, 8, 8, 8, 8, 8, 8, 8, 8, 8, 8, 8, 8, 8, 8, 8, 8]⟩ : ByteArray) x = ((bl x.toNat : Nat) : Int) := by
  have := tab8_all ⟨x.toNat, by omega⟩
  unfold tab8 at this
  rw [show (((⟨x.toNat, by omega⟩ : Fin 256).val : Nat) : Int) = x from by simp; omega] at this
  exact this

theorem blI {x : Int} (k : Nat) (h : (2 : Int) ^ k ≤ x) : ((bl x.toNat : Nat) : Int) = ((bl (x / 2 ^ k).toNat : Nat) : Int) + k := by
  have h1 := bl_shift k x.toNat (by have := two_pow_int k; omega)
  have h2 : (x / 2 ^ k).toNat = x.toNat / 2 ^ k := by
    have h3 : 0 < (2 : Int) ^ k := Int.pow_pos (by omega)
    obtain ⟨n, rfl⟩ : ∃ n : Nat, x = n := ⟨x.toNat, by omega⟩
    rw [← two_pow_int, Int.toNat_natCast, ← Int.natCast_ediv, Int.toNat_natCast]
  rw [h2, h1]
  omega

set_option maxRecDepth 100000 in
theorem len64_j0 {x c : Int} (h0 : 0 ≤ x) (h1 : x < 4294967296) (c0 : 0 ≤ c) (c1 : c ≤ 1000) : Ev (fun k => bits_Len64.j0 k x c) (c + ((bl x.toNat : Nat) : Int)) := by
  refine Ev.step (fun k => by rw [bits_Len64.j0]) ?_
  have blb : ∀ y : Int, 0 ≤ y → y < 256 → ((bl y.toNat : Nat) : Int) ≤ 8 := by
    intro y y0 y1
    have := bl_le (n := y.toNat) (k := 8) (by omega)
    omega
  by_cases p1 : x ≥ 65536
  · simp only [if_pos p1]
    have e1 := blI (x := x) 16 (by omega)
    by_cases p2 : x / 65536 ≥ 256
    · have e2 := blI (x := x / 65536) 8 (by omega)
      have r0 : 0 ≤ x / 65536 / 256 := by omega
      have r1 : x / 65536 / 256 < 256 := by omega
      have r2 : x / 65536 / 256 % 256 = x / 65536 / 256 := by omega
      have b := blb (x / 65536 / 256) (by omega) (by omega)
      simp only [if_pos p2, r2, if_pos r0, if_pos r1, tab8_eq r0 r1]
      rw [w64 (n := ((bl (x / 65536 / 256).toNat : Nat) : Int)) (by omega) (by omega), w64 (n := c + 16) (by omega) (by omega), w64 (n := c + 16 + 8) (by omega) (by omega), w64 (by omega) (by omega),
        show c + 16 + 8 + ((bl (x / 65536 / 256).toNat : Nat) : Int) = c + ((bl x.toNat : Nat) : Int) by simp only [show ((2 : Int) ^ 16) = 65536 by decide, show ((2 : Int) ^ 8) = 256 by decide] at e1 e2; omega]
      exact Ev.now _
    · have r0 : 0 ≤ x / 65536 := by omega
      have r1 : x / 65536 < 256 := by omega
      have r2 : x / 65536 % 256 = x / 65536 := by omega
      have b := blb (x / 65536) (by omega) (by omega)
      simp only [if_neg p2, r2, if_pos r0, if_pos r1, tab8_eq r0 r1]
      rw [w64 (n := ((bl (x / 65536).toNat : Nat) : Int)) (by omega) (by omega), w64 (n := c + 16) (by omega) (by omega), w64 (by omega) (by omega),
        show c + 16 + ((bl (x / 65536).toNat : Nat) : Int) = c + ((bl x.toNat : Nat) : Int) by simp only [show ((2 : Int) ^ 16) = 65536 by decide] at e1; omega]
      exact Ev.now _
  · simp only [if_neg p1]
    by_cases p2 : x ≥ 256
    · have e2 := blI (x := x) 8 (by omega)
      have r0 : 0 ≤ x / 256 := by omega
      have r1 : x / 256 < 256 := by omega
      have r2 : x / 256 % 256 = x / 256 := by omega
      have b := blb (x / 256) (by omega) (by omega)
      simp only [if_pos p2, r2, if_pos r0, if_pos r1, tab8_eq r0 r1]
      rw [w64 (n := ((bl (x / 256).toNat : Nat) : Int)) (by omega) (by omega), w64 (n := c + 8) (by omega) (by omega), w64 (by omega) (by omega),
        show c + 8 + ((bl (x / 256).toNat : Nat) : Int) = c + ((bl x.toNat : Nat) : Int) by simp only [show ((2 : Int) ^ 8) = 256 by decide] at e2; omega]
      exact Ev.now _
    · have r0 : 0 ≤ x := by omega
      have r1 : x < 256 := by omega
      have r2 : x % 256 = x := by omega
      have b := blb x (by omega) (by omega)
      simp only [if_neg p2, r2, if_pos r0, if_pos r1, tab8_eq r0 r1]
      rw [w64 (n := ((bl x.toNat : Nat) : Int)) (by omega) (by omega), w64 (by omega) (by omega)]
      exact Ev.now _

theorem len_eq {x : Int} (h0 : 0 ≤ x) (h1 : x < 18446744073709551616) : Ev (fun k => bits_Len.f k x) ((bl x.toNat : Nat) : Int) := by
  unfold bits_Len.f bits_Len64.f
  by_cases p : x ≥ 4294967296
  · simp only [if_pos p]
    have e := blI (x := x) 32 (by omega)
    have := len64_j0 (x := x / 4294967296) (c := 32) (by omega) (by omega) (by omega) (by omega)
    rw [show 32 + ((bl (x / 4294967296).toNat : Nat) : Int) = ((bl x.toNat : Nat) : Int) by simp only [show ((2 : Int) ^ 32) = 4294967296 by decide] at e; omega] at this
    exact Ev.bind this (Ev.now _)
  · simp only [if_neg p]
    have := len64_j0 (x := x) (c := 0) (by omega) (by omega) (by omega) (by omega)
    rw [Int.zero_add] at this
    exact Ev.bind this (Ev.now _)

theorem u64w {x : Int} (h0 : 0 ≤ x) (h1 : x < 18446744073709551616) : IntKind.u64.wrap x = x := by
  rw [show IntKind.u64.wrap x = x % 18446744073709551616 from by simp [IntKind.wrap, IntKind.bits, IntKind.signed]]
  omega

/-- The bits of digits. -/
def nbits (l : List Int) : Int := if l.length = 0 then 0 else 16 * ((l.length : Int) - 1) + ((bl (l.getD (l.length - 1) 0).toNat : Nat) : Int)

theorem implBits_eq {l : List Int} (h : Dg l) (hl : l.length ≤ 1048576) : Ev (fun k => impl_natBits.f k l) (nbits l) := by
  unfold impl_natBits.f nbits
  by_cases h0 : l.length = 0
  · simp only [h0, Int.natCast_zero, if_true]
    exact Ev.now _
  · have b := h.getD (l.length - 1)
    have bb := bl_le (n := (l.getD (l.length - 1) 0).toNat) (k := 16) (by omega)
    have e : wrap64 ((l.length : Int) - 1) = (l.length : Int) - 1 := w64 (by omega) (by omega)
    have q0 : 0 ≤ (l.length : Int) - 1 := by clear e; omega
    have q1 : (l.length : Int) - 1 < l.length := by clear e; omega
    have q2 : ¬ (l.length : Int) = 0 := by clear e; omega
    have q3 : ((l.length : Int) - 1).toNat = l.length - 1 := by clear e; omega
    simp only [if_neg h0, if_neg q2, e, if_pos q0, if_pos q1, rd, q3]
    clear e
    rw [u64w (by omega) (by omega)]
    refine Ev.bind (len_eq (by omega) (by omega)) ?_
    rw [w64 (n := 16 * ((l.length : Int) - 1)) (by omega) (by omega), w64 (by omega) (by omega)]
    exact Ev.now _

theorem specBits_loop : ∀ (m : Nat) (n : Nat) (c : Int), n ≤ m → 0 ≤ c → c + ((bl n : Nat) : Int) ≤ 1099511627776 → n ≤ 1099511627776 → Ev (fun k => spec_l1Bits.l0 k c ((n : Nat) : Int)) (c + ((bl n : Nat) : Int)) := by
  intro m
  induction m with
  | zero =>
    intro n c hn c0 c1 hb
    obtain rfl : n = 0 := by omega
    refine Ev.step (fun k => by rw [spec_l1Bits.l0]) ?_
    simp only [if_neg (show ¬ ((0 : Nat) : Int) > 0 by omega), bl_zero]
    simpa using Ev.now c
  | succ m ih =>
    intro n c hn c0 c1 hb
    by_cases h0 : n = 0
    · subst h0; exact ih 0 c (by omega) c0 c1 hb
    · rw [bl_pos h0] at c1 ⊢
      have := ih (n / 2) (c + 1) (by omega) (by omega) (by omega) (by omega)
      refine Ev.step (fun k => by rw [spec_l1Bits.l0]) ?_
      simp only [if_pos (show ((n : Nat) : Int) > 0 by omega)]
      have e : wrap64 (Int.tdiv (n : Int) 2) = ((n / 2 : Nat) : Int) := by
        rw [Int.tdiv_eq_ediv_of_nonneg (by omega), w64 (by omega) (by omega)]
        omega
      rw [e]
      clear e
      rw [w64 (by omega) (by omega), show c + (((bl (n / 2) + 1 : Nat)) : Int) = c + 1 + ((bl (n / 2) : Nat) : Int) by omega]
      exact this

theorem specBits_eq {l : List Int} (h : Dg l) (hl : l.length ≤ 1048576) : Ev (fun k => spec_l1Bits.f k l) (nbits l) := by
  unfold spec_l1Bits.f nbits
  by_cases h0 : l.length = 0
  · simp only [h0, Int.natCast_zero, if_true]
    exact Ev.now _
  · have b := h.getD (l.length - 1)
    have bb := bl_le (n := (l.getD (l.length - 1) 0).toNat) (k := 16) (by omega)
    have := specBits_loop (l.getD (l.length - 1) 0).toNat (l.getD (l.length - 1) 0).toNat (16 * ((l.length : Int) - 1)) (Nat.le_refl _) (by omega) (by omega) (by omega)
    rw [show (((l.getD (l.length - 1) 0).toNat : Nat) : Int) = l.getD (l.length - 1) 0 by omega] at this
    have e : wrap64 ((l.length : Int) - 1) = (l.length : Int) - 1 := w64 (by omega) (by omega)
    have q0 : 0 ≤ (l.length : Int) - 1 := by clear e; omega
    have q1 : (l.length : Int) - 1 < l.length := by clear e; omega
    have q2 : ¬ (l.length : Int) = 0 := by clear e; omega
    have q3 : ((l.length : Int) - 1).toNat = l.length - 1 := by clear e; omega
    simp only [if_neg h0, if_neg q2, e, if_pos q0, if_pos q1, rd, q3]
    clear e
    rw [w64 (n := 16 * ((l.length : Int) - 1)) (by omega) (by omega)]
    exact this

theorem FnExactNatBits : laws_FnExactNatBits.Pure := by
  intro a _ _ _
  refine Ev.rounds (r := true) ?_
  unfold laws_FnExactNatBits.f
  by_cases h : (a.length : Int) > 1048576
  · simp only [if_pos h]; exact Ev.now _
  simp only [if_neg h]
  have ta := toIntS_eq a (by omega)
  have ea := eqIntS_eq a (by omega)
  have os := specNatOk_eq a (by omega)
  have oi := implNatOk_eq a (by omega)
  obtain ⟨r, r1, r2⟩ : ∃ r, Ev (fun k => spec_NatBits.f k a) r ∧ Ev (fun k => impl_NatBits.f k a) r := by
    unfold spec_NatBits.f impl_NatBits.f
    cases ka : natOk a with
    | false =>
      rw [ka] at os oi
      refine ⟨-1, Ev.bind os ?_, Ev.bind oi ?_⟩
      · simpa using Ev.now (-1 : Int)
      · simpa using Ev.now (-1 : Int)
    | true =>
      rw [ka] at os oi
      obtain ⟨la, da, na⟩ := (natOk_iff a).1 ka
      refine ⟨nbits a, Ev.bind os ?_, Ev.bind oi ?_⟩
      · simp only [if_true]
        exact Ev.bind (specBits_eq da (by omega)) (Ev.now _)
      · simp only [if_true]
        exact Ev.bind (implBits_eq da (by omega)) (Ev.now _)
  refine Ev.bind ta (Ev.bind r1 (Ev.bind ta (Ev.bind r2 ?_)))
  simp only [if_true]
  refine Ev.bind ta (Ev.bind ea ?_)
  simp only [if_true]
  exact Ev.now _

end Go.Proofs.Ytohplbcbkggjaaa.Pure
