/- The law FnExactNatBytes answers true at all digits and sizes: both lay the same bytes, and the answer is the call's own. -/
import Derived.Test.YtohplbcbkggjaabPFnExactNatBytesx4
import Derived.Test.YtohplbcbkggjaabMDig
import Derived.Test.YtohplbcbkggjaabMBits
namespace Go.Proofs.Ytohplbcbkggjaab.Pure
open Go.RowKit Go.Proofs.Ytohplbcbkggjaab.PFnExactNatBytes Go.Proofs.YtohplbcbkggjaabW.PrintWords Go.Proofs.YtohplbcbkggjaabW.PrintLast Go.Proofs.Ytohplbcbkggjaab.Plain

set_option linter.unusedVariables false
set_option linter.unusedSimpArgs false

theorem w64 {n : Int} (h : -9223372036854775808 ≤ n) (h' : n ≤ 9223372036854775807) : wrap64 n = n := by
  unfold wrap64
  omega

theorem wf64 {n : Int} (h : (Lit.int .i64 n).wf = true) : -9223372036854775808 ≤ n ∧ n ≤ 9223372036854775807 := by
  simpa [Lit.wf, IntKind.min, IntKind.max, IntKind.signed, IntKind.bits] using h

theorem wsucc {i : Nat} (h : i ≤ 1099511627776) : wrap64 ((i : Int) + 1) = ((i + 1 : Nat) : Int) := by
  rw [w64 (by omega) (by omega)]
  omega

theorem wpred {i : Nat} (h : i ≤ 1099511627776) : wrap64 (((i + 1 : Nat) : Int) - 1) = (i : Int) := by
  rw [w64 (by omega) (by omega)]
  omega

theorem in_eq (n a b : Int) : spec_l1In.f n a b = some (decide (a ≤ n ∧ n ≤ b)) := by
  unfold spec_l1In.f
  by_cases h : n ≥ a
  · rw [if_pos h]
    have : a ≤ n := h
    simp [this]
  · rw [if_neg h]
    have : ¬ a ≤ n := h
    simp [this]

theorem within_eq (n a b : Int) : impl_within.f n a b = some (decide (a ≤ n ∧ n ≤ b)) := by
  unfold impl_within.f
  by_cases h : n ≥ a
  · rw [if_pos h]
    have : a ≤ n := h
    simp [this]
  · rw [if_neg h]
    have : ¬ a ≤ n := h
    simp [this]

theorem toIntS_loop (l : List Int) (hl : l.length ≤ 1099511627776) : ∀ (d : Nat) (x : List Int) (i : Int), 0 ≤ i → (l.length : Int) - i = d → x.length = l.length → (∀ j : Nat, (j : Int) < i → x.getD j 0 = l.getD j 0) →
    Ev (fun k => laws_toIntS.l0 k l x i) l := by
  intro d
  induction d with
  | zero =>
    intro x i h0 hd hx he
    refine Ev.step (fun k => by rw [laws_toIntS.l0]) ?_
    simp only [if_neg (show ¬ i < (l.length : Int) by omega)]
    have : x = l := by
      apply List.ext_getElem hx
      intro j h1 h2
      have := he j (by omega)
      rwa [List.getD_eq_getElem?_getD, List.getD_eq_getElem?_getD, List.getElem?_eq_getElem h1, List.getElem?_eq_getElem h2] at this
    rw [this]
    exact Ev.now _
  | succ d ih =>
    intro x i h0 hd hx he
    refine Ev.step (fun k => by rw [laws_toIntS.l0]) ?_
    simp only [if_pos (show i < (l.length : Int) by omega), if_pos h0, hx]
    rw [w64 (n := i + 1) (by omega) (by omega)]
    refine ih _ (i + 1) (by omega) (by omega) (by simpa using hx) (fun j hj => ?_)
    unfold rd
    rw [List.getD_eq_getElem?_getD, List.getElem?_set]
    by_cases hji : i.toNat = j
    · subst hji
      rw [if_pos rfl, if_pos (by omega)]
      rfl
    · rw [if_neg hji, ← List.getD_eq_getElem?_getD]
      exact he j (by omega)

theorem toIntS_eq (l : List Int) (hl : l.length ≤ 1099511627776) : Ev (fun k => laws_toIntS.f k l) l := by
  unfold laws_toIntS.f
  simp only [if_pos (show 0 ≤ (l.length : Int) by omega), if_pos (show ((l.length : Int)).toNat ≤ 35184372088832 by omega)]
  exact toIntS_loop l hl l.length _ 0 (by omega) (by omega) (by simp) (fun j hj => by omega)

theorem eqIntS_loop (l : List Int) (hl : l.length ≤ 1099511627776) : ∀ (d : Nat) (i : Int), 0 ≤ i → (l.length : Int) - i = d → Ev (fun k => laws_eqIntS.l0 k l l i) true := by
  intro d
  induction d with
  | zero =>
    intro i h0 hd
    refine Ev.step (fun k => by rw [laws_eqIntS.l0]) ?_
    simp only [if_neg (show ¬ i < (l.length : Int) by omega)]
    exact Ev.now _
  | succ d ih =>
    intro i h0 hd
    refine Ev.step (fun k => by rw [laws_eqIntS.l0]) ?_
    simp only [if_pos (show i < (l.length : Int) by omega), if_pos h0, if_true]
    rw [w64 (n := i + 1) (by omega) (by omega)]
    exact ih (i + 1) (by omega) (by omega)

theorem eqIntS_eq (l : List Int) (hl : l.length ≤ 1099511627776) : Ev (fun k => laws_eqIntS.f k l l) true := by
  unfold laws_eqIntS.f
  simp only [if_true]
  exact eqIntS_loop l hl l.length 0 (by omega) (by omega)

theorem markIntS_loop (n : Nat) (m0 : Int) (hm : 1 ≤ m0) (hm' : m0 ≤ 1099511627776) (hl : n ≤ 1099511627776) : ∀ (d : Nat) (x : List Int) (i : Int), 0 ≤ i → (n : Int) - i = d → x.length = n →
    (∀ j : Nat, (j : Int) < i → x.getD j 0 = m0 + j) → Ev (fun k => laws_markIntS.l0 k x (m0 + i) i) (m0 + n, (List.range n).map (fun j => m0 + ((j : Nat) : Int))) := by
  intro d
  induction d with
  | zero =>
    intro x i h0 hd hx he
    refine Ev.step (fun k => by rw [laws_markIntS.l0]) ?_
    simp only [hx, if_neg (show ¬ i < (n : Int) by omega)]
    have : x = (List.range n).map (fun j => m0 + ((j : Nat) : Int)) := by
      apply List.ext_getElem (by simpa using hx)
      intro j h1 h2
      have := he j (by omega)
      rw [List.getD_eq_getElem?_getD, List.getElem?_eq_getElem h1] at this
      simpa using this
    rw [this, show m0 + i = m0 + (n : Int) by omega]
    exact Ev.now _
  | succ d ih =>
    intro x i h0 hd hx he
    refine Ev.step (fun k => by rw [laws_markIntS.l0]) ?_
    simp only [hx, if_pos (show i < (n : Int) by omega), if_pos h0]
    rw [w64 (n := i + 1) (by omega) (by omega), w64 (n := m0 + i + 1) (by omega) (by omega), show m0 + i + 1 = m0 + (i + 1) by omega]
    refine ih _ (i + 1) (by omega) (by omega) (by simpa using hx) (fun j hj => ?_)
    rw [List.getD_eq_getElem?_getD, List.getElem?_set]
    by_cases hji : i.toNat = j
    · subst hji
      rw [if_pos rfl, if_pos (by omega)]
      simp only [Option.getD_some]
      omega
    · rw [if_neg hji, ← List.getD_eq_getElem?_getD]
      exact he j (by omega)

def marked (n : Nat) (m0 : Int) : List Int := (List.range n).map (fun j => m0 + ((j : Nat) : Int))

theorem markIntS_eq (l : List Int) {m0 : Int} (hm : 1 ≤ m0) (hm' : m0 ≤ 1099511627776) (hl : l.length ≤ 1099511627776) : Ev (fun k => laws_markIntS.f k l m0) (m0 + l.length, marked l.length m0) := by
  unfold laws_markIntS.f
  have := markIntS_loop l.length m0 hm hm' hl l.length l 0 (by omega) (by omega) rfl (fun j hj => by omega)
  rwa [Int.add_zero] at this


theorem eqByteS_loop (l : List Int) (hl : l.length ≤ 1099511627776) : ∀ (d : Nat) (i : Int), 0 ≤ i → (l.length : Int) - i = d → Ev (fun k => laws_eqByteS.l0 k l l i) true := by
  intro d
  induction d with
  | zero =>
    intro i h0 hd
    refine Ev.step (fun k => by rw [laws_eqByteS.l0]) ?_
    simp only [if_neg (show ¬ i < (l.length : Int) by omega)]
    exact Ev.now _
  | succ d ih =>
    intro i h0 hd
    refine Ev.step (fun k => by rw [laws_eqByteS.l0]) ?_
    simp only [if_pos (show i < (l.length : Int) by omega), if_pos h0, if_true]
    rw [w64 (n := i + 1) (by omega) (by omega)]
    exact ih (i + 1) (by omega) (by omega)

theorem eqByteS_eq (l : List Int) (hl : l.length ≤ 1099511627776) : Ev (fun k => laws_eqByteS.f k l l) true := by
  unfold laws_eqByteS.f
  simp only [if_true]
  exact eqByteS_loop l hl l.length 0 (by omega) (by omega)

theorem markByteS_loop (n : Nat) (m0 : Int) (hm : 1 ≤ m0) (hm' : m0 ≤ 1099511627776) (hl : n ≤ 1099511627776) : ∀ (d : Nat) (x : List Int) (i : Int), 0 ≤ i → (n : Int) - i = d → x.length = n →
    (∀ j : Nat, (j : Int) < i → x.getD j 0 = (m0 + j) % 256) → Ev (fun k => laws_markByteS.l0 k x (m0 + i) i) (m0 + n, (List.range n).map (fun j => (m0 + ((j : Nat) : Int)) % 256)) := by
  intro d
  induction d with
  | zero =>
    intro x i h0 hd hx he
    refine Ev.step (fun k => by rw [laws_markByteS.l0]) ?_
    simp only [hx, if_neg (show ¬ i < (n : Int) by omega)]
    have : x = (List.range n).map (fun j => (m0 + ((j : Nat) : Int)) % 256) := by
      apply List.ext_getElem (by simpa using hx)
      intro j h1 h2
      have := he j (by omega)
      rw [List.getD_eq_getElem?_getD, List.getElem?_eq_getElem h1] at this
      simpa using this
    rw [this, show m0 + i = m0 + (n : Int) by omega]
    exact Ev.now _
  | succ d ih =>
    intro x i h0 hd hx he
    refine Ev.step (fun k => by rw [laws_markByteS.l0]) ?_
    simp only [hx, if_pos (show i < (n : Int) by omega), if_pos h0]
    rw [w64 (n := i + 1) (by omega) (by omega), w64 (n := m0 + i + 1) (by omega) (by omega), show m0 + i + 1 = m0 + (i + 1) by omega]
    refine ih _ (i + 1) (by omega) (by omega) (by simpa using hx) (fun j hj => ?_)
    rw [List.getD_eq_getElem?_getD, List.getElem?_set]
    by_cases hji : i.toNat = j
    · subst hji
      rw [if_pos rfl, if_pos (by omega)]
      simp only [Option.getD_some]
      omega
    · rw [if_neg hji, ← List.getD_eq_getElem?_getD]
      exact he j (by omega)

def markedB (n : Nat) (m0 : Int) : List Int := (List.range n).map (fun j => (m0 + ((j : Nat) : Int)) % 256)

theorem markByteS_eq (l : List Int) {m0 : Int} (hm : 1 ≤ m0) (hm' : m0 ≤ 1099511627776) (hl : l.length ≤ 1099511627776) : Ev (fun k => laws_markByteS.f k l m0) (m0 + l.length, markedB l.length m0) := by
  unfold laws_markByteS.f
  have := markByteS_loop l.length m0 hm hm' hl l.length l 0 (by omega) (by omega) rfl (fun j hj => by omega)
  rwa [Int.add_zero] at this


theorem heldByteS_loop (n : Nat) (m0 : Int) (hm : 1 ≤ m0) (hm' : m0 ≤ 1099511627776) (hl : n ≤ 1099511627776) : ∀ (d : Nat) (i : Int), 0 ≤ i → (n : Int) - i = d →
    Ev (fun k => laws_heldByteS.l0 k (markedB n m0) (m0 + i) i) (m0 + n) := by
  have hlen : (markedB n m0).length = n := by simp [markedB]
  intro d
  induction d with
  | zero =>
    intro i h0 hd
    refine Ev.step (fun k => by rw [laws_heldByteS.l0]) ?_
    simp only [hlen, if_neg (show ¬ i < (n : Int) by omega)]
    rw [show m0 + i = m0 + (n : Int) by omega]
    exact Ev.now _
  | succ d ih =>
    intro i h0 hd
    refine Ev.step (fun k => by rw [laws_heldByteS.l0]) ?_
    have hr : rd (markedB n m0) i = (m0 + i) % 256 := by
      unfold rd markedB
      rw [List.getD_eq_getElem?_getD, List.getElem?_map, List.getElem?_range (by omega)]
      simp only [Option.map_some, Option.getD_some]
      omega
    simp only [hlen, if_pos (show i < (n : Int) by omega), if_pos h0, hr, if_true]
    rw [w64 (n := i + 1) (by omega) (by omega), w64 (n := m0 + i + 1) (by omega) (by omega), show m0 + i + 1 = m0 + (i + 1) by omega]
    exact ih (i + 1) (by omega) (by omega)

theorem heldByteS_eq (n : Nat) {m0 : Int} (hm : 1 ≤ m0) (hm' : m0 ≤ 1099511627776) (hl : n ≤ 1099511627776) : Ev (fun k => laws_heldByteS.f k (markedB n m0) m0) (m0 + n) := by
  unfold laws_heldByteS.f
  have := heldByteS_loop n m0 hm hm' hl n 0 (by omega) (by omega)
  rwa [Int.add_zero] at this

theorem specNatOk_loop (l : List Int) (hl : l.length ≤ 1099511627776) : ∀ (d : Nat) (i : Int), 0 ≤ i → (l.length : Int) - i = d →
    Ev (fun k => spec_NatOk.l0 k l i) ((l.drop i.toNat).all (fun d => decide (0 ≤ d ∧ d ≤ 65535)) && decide (l.length ≤ 64) && (l.isEmpty || (l.getD (l.length - 1) 0 != 0))) := by
  intro d
  induction d with
  | zero =>
    intro i h0 hd
    refine Ev.step (fun k => by rw [spec_NatOk.l0]) ?_
    simp only [if_neg (show ¬ i < (l.length : Int) by omega)]
    rw [List.drop_eq_nil_of_le (by omega)]
    by_cases h1 : (l.length : Int) ≤ 64
    · simp only [if_pos h1, show l.length ≤ 64 by omega]
      by_cases h2 : (l.length : Int) = 0
      · obtain rfl : l = [] := List.length_eq_zero_iff.1 (by omega)
        simpa using Ev.now true
      · have e : wrap64 ((l.length : Int) - 1) = (l.length : Int) - 1 := w64 (by omega) (by omega)
        have hne : l.isEmpty = false := by cases l with | nil => simp at h2 | cons a l => rfl
        simp only [if_neg h2, e, if_pos (show 0 ≤ (l.length : Int) - 1 by omega), if_pos (show (l.length : Int) - 1 < l.length by omega), hne, rd, show ((l.length : Int) - 1).toNat = l.length - 1 by omega]
        simpa using Ev.now _
    · simp only [if_neg h1, show ¬ l.length ≤ 64 by omega]
      simpa using Ev.now false
  | succ d ih =>
    intro i h0 hd
    refine Ev.step (fun k => by rw [spec_NatOk.l0]) ?_
    have hi : i.toNat < l.length := by omega
    rw [List.drop_eq_getElem_cons hi, List.all_cons]
    have hr : rd l i = l[i.toNat] := by simp [rd, List.getD_eq_getElem?_getD, List.getElem?_eq_getElem hi]
    simp only [if_pos (show i < (l.length : Int) by omega), if_pos h0, in_eq, hr, Option.bind_some]
    by_cases h1 : 0 ≤ l[i.toNat] ∧ l[i.toNat] ≤ 65535
    · simp only [h1.1, h1.2, and_self, decide_true, if_true, Bool.true_and]
      rw [w64 (by omega) (by omega)]
      have := ih (i + 1) (by omega) (by omega)
      rwa [show (i + 1).toNat = i.toNat + 1 by omega] at this
    · simp only [h1, decide_false, Bool.false_and]
      simpa using Ev.now false

theorem specNatOk_eq (l : List Int) (hl : l.length ≤ 1099511627776) : Ev (fun k => spec_NatOk.f k l) (natOk l) := by
  unfold spec_NatOk.f natOk
  have := specNatOk_loop l hl l.length 0 (by omega) (by omega)
  rw [Int.toNat_zero, List.drop_zero] at this
  rwa [Bool.and_comm (decide (l.length ≤ 64))]

theorem allWithin_loop (l : List Int) (a b : Int) (hl : l.length ≤ 1099511627776) : ∀ (d : Nat) (i : Int), 0 ≤ i → (l.length : Int) - i = d →
    Ev (fun k => impl_allWithin.l0 k a b l (l.length : Int) i) ((l.drop i.toNat).all (fun d => decide (a ≤ d ∧ d ≤ b))) := by
  intro d
  induction d with
  | zero =>
    intro i h0 hd
    refine Ev.step (fun k => by rw [impl_allWithin.l0]) ?_
    simp only [if_neg (show ¬ i < (l.length : Int) by omega)]
    rw [List.drop_eq_nil_of_le (by omega)]
    exact Ev.now _
  | succ d ih =>
    intro i h0 hd
    refine Ev.step (fun k => by rw [impl_allWithin.l0]) ?_
    have hi : i.toNat < l.length := by omega
    rw [List.drop_eq_getElem_cons hi, List.all_cons]
    have hr : rd l i = l[i.toNat] := by simp [rd, List.getD_eq_getElem?_getD, List.getElem?_eq_getElem hi]
    simp only [if_pos (show i < (l.length : Int) by omega), if_pos h0, within_eq, hr, Option.bind_some]
    by_cases h1 : a ≤ l[i.toNat] ∧ l[i.toNat] ≤ b
    · simp only [h1.1, h1.2, and_self, decide_true, if_true, Bool.true_and]
      rw [w64 (by omega) (by omega)]
      have := ih (i + 1) (by omega) (by omega)
      rwa [show (i + 1).toNat = i.toNat + 1 by omega] at this
    · simp only [h1, decide_false, Bool.false_and]
      simpa using Ev.now false

theorem allWithin_eq (l : List Int) (a b : Int) (hl : l.length ≤ 1099511627776) : Ev (fun k => impl_allWithin.f k l a b) (l.all (fun d => decide (a ≤ d ∧ d ≤ b))) := by
  unfold impl_allWithin.f
  have := allWithin_loop l a b hl l.length 0 (by omega) (by omega)
  rwa [Int.toNat_zero, List.drop_zero] at this

theorem implNatOk_eq (l : List Int) (hl : l.length ≤ 1099511627776) : Ev (fun k => impl_NatOk.f k l) (natOk l) := by
  unfold impl_NatOk.f natOk
  by_cases h1 : (l.length : Int) ≤ 64
  · simp only [if_pos h1, show l.length ≤ 64 by omega, decide_true, Bool.true_and]
    refine Ev.bind (allWithin_eq l 0 65535 hl) ?_
    by_cases h3 : l.all (fun d => decide (0 ≤ d ∧ d ≤ 65535)) = true
    · simp only [h3, if_true, Bool.true_and]
      by_cases h2 : (l.length : Int) = 0
      · obtain rfl : l = [] := List.length_eq_zero_iff.1 (by omega)
        simpa using Ev.now true
      · have e : wrap64 ((l.length : Int) - 1) = (l.length : Int) - 1 := w64 (by omega) (by omega)
        have hne : l.isEmpty = false := by cases l with | nil => simp at h2 | cons a l => rfl
        simp only [if_neg h2, e, if_pos (show 0 ≤ (l.length : Int) - 1 by omega), if_pos (show (l.length : Int) - 1 < l.length by omega), hne, rd, show ((l.length : Int) - 1).toNat = l.length - 1 by omega]
        simpa using Ev.now _
    · simp only [h3, Bool.false_and]
      simpa using Ev.now false
  · simp only [if_neg h1, show ¬ l.length ≤ 64 by omega]
    simpa using Ev.now false

def tab8 : ByteArray := ⟨#[0, 1, 2, 2, 3, 3, 3, 3, 4, 4, 4, 4, 4, 4, 4, 4, 5, 5, 5, 5, 5, 5, 5, 5, 5, 5, 5, 5, 5, 5, 5, 5, 6, 6, 6, 6, 6, 6, 6, 6, 6, 6, 6, 6, 6, 6, 6, 6, 6, 6, 6, 6, 6, 6, 6, 6, 6, 6, 6, 6, 6, 6, 6, 6, 7, 7, 7, 7, 7, 7, 7, 7, 7, 7, 7, 7, 7, 7, 7, 7, 7, 7, 7, 7, 7, 7, 7, 7, 7, 7, 7, 7, 7, 7, 7, 7, 7, 7, 7, 7, 7, 7, 7, 7, 7, 7, 7, 7, 7, 7, 7, 7, 7, 7, 7, 7, 7, 7, 7, 7, 7, 7, 7, 7, 7, 7, 7, 7, 8, 8, 8, 8, 8, 8, 8, 8, 8, 8, 8, 8, 8, 8, 8, 8, 8, 8, 8, 8, 8, 8, 8, 8, 8, 8, 8, 8, 8, 8, 8, 8, 8, 8, 8, 8, 8, 8, 8, 8, 8, 8, 8, 8, 8, 8, 8, 8, 8, 8, 8, 8, 8, 8, 8, 8, 8, 8, 8, 8, 8, 8, 8, 8, 8, 8, 8, 8, 8, 8, 8, 8, 8, 8, 8, 8, 8, 8, 8, 8, 8, 8, 8, 8, 8, 8, 8, 8, 8, 8, 8, 8, 8, 8, 8, 8, 8, 8, 8, 8, 8, 8, 8, 8, 8, 8, 8, 8, 8, 8, 8, 8, 8, 8, 8, 8, 8, 8, 8, 8, 8, 8, 8, 8, 8, 8, 8, 8]⟩

theorem tab8_all : ∀ n : Fin 256, bt tab8 ((n.val : Nat) : Int) = ((bl n.val : Nat) : Int) := by decide +kernel

set_option maxRecDepth 100000 in
theorem tab8_eq {x : Int} (h0 : 0 ≤ x) (h1 : x < 256) : bt (⟨#[0, 1, 2, 2, 3, 3, 3, 3, 4, 4, 4, 4, 4, 4, 4, 4, 5, 5, 5, 5, 5, 5, 5, 5, 5, 5, 5, 5, 5, 5, 5, 5, 6, 6, 6, 6, 6, 6, 6, 6, 6, 6, 6, 6, 6, 6, 6, 6, 6, 6, 6, 6, 6, 6, 6, 6, 6, 6, 6, 6, 6, 6, 6, 6, 7, 7, 7, 7, 7, 7, 7, 7, 7, 7, 7, 7, 7, 7, 7, 7, 7, 7, 7, 7, 7, 7, 7, 7, 7, 7, 7, 7, 7, 7, 7, 7, 7, 7, 7, 7, 7, 7, 7, 7, 7, 7, 7, 7, 7, 7, 7, 7, 7, 7, 7, 7, 7, 7, 7, 7, 7, 7, 7, 7, 7, 7, 7, 7, 8, 8, 8, 8, 8, 8, 8, 8, 8, 8, 8, 8, 8, 8, 8, 8, 8, 8, 8, 8, 8, 8, 8, 8, 8, 8, 8, 8, 8, 8, 8, 8, 8, 8, 8, 8, 8, 8, 8, 8, 8, 8, 8, 8, 8, 8, 8, 8, 8, 8, 8, 8, 8, 8, 8, 8, 8, 8, 8, 8, 8, 8, 8, 8, 8, 8, 8, 8, 8, 8, 8, 8, 8, 8, 8, 8, 8, 8, 8, 8, 8, 8, 8, 8, 8, 8, 8, 8, 8, 8, 8, 8, 8, 8, 8, 8, 8, 8, 8, 8, 8, 8, 8, 8, 8, 8, 8, 8, 8, 8, 8, 8, 8, 8, 8, 8, 8, 8, 8, 8, 8, 8, 8, 8, 8, 8, 8, 8]⟩ : ByteArray) x = ((bl x.toNat : Nat) : Int) := by
  have := tab8_all ⟨x.toNat, by omega⟩
  unfold tab8 at this
  rw [show (((⟨x.toNat, by omega⟩ : Fin 256).val : Nat) : Int) = x from by simp; omega] at this
  exact this

theorem blI {x : Int} (k : Nat) (h : (2 : Int) ^ k ≤ x) : ((bl x.toNat : Nat) : Int) = ((bl (x / 2 ^ k).toNat : Nat) : Int) + k := by
  have h1 := bl_shift k x.toNat (by have := two_pow_int k; omega)
  have h2 : (x / 2 ^ k).toNat = x.toNat / 2 ^ k := by
    have h3 : 0 < (2 : Int) ^ k := Int.pow_pos (by omega)
    obtain ⟨n, rfl⟩ : ∃ n : Nat, x = n := ⟨x.toNat, by omega⟩
    rw [← two_pow_int, Int.toNat_natCast, ← Int.natCast_ediv, Int.toNat_natCast]
  rw [h2, h1]
  omega

set_option maxRecDepth 100000 in
theorem len64_j0 {x c : Int} (h0 : 0 ≤ x) (h1 : x < 4294967296) (c0 : 0 ≤ c) (c1 : c ≤ 1000) : Ev (fun k => bits_Len64.j0 k x c) (c + ((bl x.toNat : Nat) : Int)) := by
  refine Ev.step (fun k => by rw [bits_Len64.j0]) ?_
  have blb : ∀ y : Int, 0 ≤ y → y < 256 → ((bl y.toNat : Nat) : Int) ≤ 8 := by
    intro y y0 y1
    have := bl_le (n := y.toNat) (k := 8) (by omega)
    omega
  by_cases p1 : x ≥ 65536
  · simp only [if_pos p1]
    have e1 := blI (x := x) 16 (by omega)
    by_cases p2 : x / 65536 ≥ 256
    · have e2 := blI (x := x / 65536) 8 (by omega)
      have r0 : 0 ≤ x / 65536 / 256 := by omega
      have r1 : x / 65536 / 256 < 256 := by omega
      have r2 : x / 65536 / 256 % 256 = x / 65536 / 256 := by omega
      have b := blb (x / 65536 / 256) (by omega) (by omega)
      simp only [if_pos p2, r2, if_pos r0, if_pos r1, tab8_eq r0 r1]
      rw [w64 (n := ((bl (x / 65536 / 256).toNat : Nat) : Int)) (by omega) (by omega), w64 (n := c + 16) (by omega) (by omega), w64 (n := c + 16 + 8) (by omega) (by omega), w64 (by omega) (by omega),
        show c + 16 + 8 + ((bl (x / 65536 / 256).toNat : Nat) : Int) = c + ((bl x.toNat : Nat) : Int) by simp only [show ((2 : Int) ^ 16) = 65536 by decide, show ((2 : Int) ^ 8) = 256 by decide] at e1 e2; omega]
      exact Ev.now _
    · have r0 : 0 ≤ x / 65536 := by omega
      have r1 : x / 65536 < 256 := by omega
      have r2 : x / 65536 % 256 = x / 65536 := by omega
      have b := blb (x / 65536) (by omega) (by omega)
      simp only [if_neg p2, r2, if_pos r0, if_pos r1, tab8_eq r0 r1]
      rw [w64 (n := ((bl (x / 65536).toNat : Nat) : Int)) (by omega) (by omega), w64 (n := c + 16) (by omega) (by omega), w64 (by omega) (by omega),
        show c + 16 + ((bl (x / 65536).toNat : Nat) : Int) = c + ((bl x.toNat : Nat) : Int) by simp only [show ((2 : Int) ^ 16) = 65536 by decide] at e1; omega]
      exact Ev.now _
  · simp only [if_neg p1]
    by_cases p2 : x ≥ 256
    · have e2 := blI (x := x) 8 (by omega)
      have r0 : 0 ≤ x / 256 := by omega
      have r1 : x / 256 < 256 := by omega
      have r2 : x / 256 % 256 = x / 256 := by omega
      have b := blb (x / 256) (by omega) (by omega)
      simp only [if_pos p2, r2, if_pos r0, if_pos r1, tab8_eq r0 r1]
      rw [w64 (n := ((bl (x / 256).toNat : Nat) : Int)) (by omega) (by omega), w64 (n := c + 8) (by omega) (by omega), w64 (by omega) (by omega),
        show c + 8 + ((bl (x / 256).toNat : Nat) : Int) = c + ((bl x.toNat : Nat) : Int) by simp only [show ((2 : Int) ^ 8) = 256 by decide] at e2; omega]
      exact Ev.now _
    · have r0 : 0 ≤ x := by omega
      have r1 : x < 256 := by omega
      have r2 : x % 256 = x := by omega
      have b := blb x (by omega) (by omega)
      simp only [if_neg p2, r2, if_pos r0, if_pos r1, tab8_eq r0 r1]
      rw [w64 (n := ((bl x.toNat : Nat) : Int)) (by omega) (by omega), w64 (by omega) (by omega)]
      exact Ev.now _

theorem len_eq {x : Int} (h0 : 0 ≤ x) (h1 : x < 18446744073709551616) : Ev (fun k => bits_Len.f k x) ((bl x.toNat : Nat) : Int) := by
  unfold bits_Len.f bits_Len64.f
  by_cases p : x ≥ 4294967296
  · simp only [if_pos p]
    have e := blI (x := x) 32 (by omega)
    have := len64_j0 (x := x / 4294967296) (c := 32) (by omega) (by omega) (by omega) (by omega)
    rw [show 32 + ((bl (x / 4294967296).toNat : Nat) : Int) = ((bl x.toNat : Nat) : Int) by simp only [show ((2 : Int) ^ 32) = 4294967296 by decide] at e; omega] at this
    exact Ev.bind this (Ev.now _)
  · simp only [if_neg p]
    have := len64_j0 (x := x) (c := 0) (by omega) (by omega) (by omega) (by omega)
    rw [Int.zero_add] at this
    exact Ev.bind this (Ev.now _)

theorem u64w {x : Int} (h0 : 0 ≤ x) (h1 : x < 18446744073709551616) : IntKind.u64.wrap x = x := by
  rw [show IntKind.u64.wrap x = x % 18446744073709551616 from by simp [IntKind.wrap, IntKind.bits, IntKind.signed]]
  omega

/-- The bits of digits. -/
def nbits (l : List Int) : Int := if l.length = 0 then 0 else 16 * ((l.length : Int) - 1) + ((bl (l.getD (l.length - 1) 0).toNat : Nat) : Int)

theorem implBits_eq {l : List Int} (h : Dg l) (hl : l.length ≤ 1048576) : Ev (fun k => impl_natBits.f k l) (nbits l) := by
  unfold impl_natBits.f nbits
  by_cases h0 : l.length = 0
  · simp only [h0, Int.natCast_zero, if_true]
    exact Ev.now _
  · have b := h.getD (l.length - 1)
    have bb := bl_le (n := (l.getD (l.length - 1) 0).toNat) (k := 16) (by omega)
    have e : wrap64 ((l.length : Int) - 1) = (l.length : Int) - 1 := w64 (by omega) (by omega)
    have q0 : 0 ≤ (l.length : Int) - 1 := by clear e; omega
    have q1 : (l.length : Int) - 1 < l.length := by clear e; omega
    have q2 : ¬ (l.length : Int) = 0 := by clear e; omega
    have q3 : ((l.length : Int) - 1).toNat = l.length - 1 := by clear e; omega
    simp only [if_neg h0, if_neg q2, e, if_pos q0, if_pos q1, rd, q3]
    clear e
    rw [u64w (by omega) (by omega)]
    refine Ev.bind (len_eq (by omega) (by omega)) ?_
    rw [w64 (n := 16 * ((l.length : Int) - 1)) (by omega) (by omega), w64 (by omega) (by omega)]
    exact Ev.now _

theorem specBits_loop : ∀ (m : Nat) (n : Nat) (c : Int), n ≤ m → 0 ≤ c → c + ((bl n : Nat) : Int) ≤ 1099511627776 → n ≤ 1099511627776 → Ev (fun k => spec_l1Bits.l0 k c ((n : Nat) : Int)) (c + ((bl n : Nat) : Int)) := by
  intro m
  induction m with
  | zero =>
    intro n c hn c0 c1 hb
    obtain rfl : n = 0 := by omega
    refine Ev.step (fun k => by rw [spec_l1Bits.l0]) ?_
    simp only [if_neg (show ¬ ((0 : Nat) : Int) > 0 by omega), bl_zero]
    simpa using Ev.now c
  | succ m ih =>
    intro n c hn c0 c1 hb
    by_cases h0 : n = 0
    · subst h0; exact ih 0 c (by omega) c0 c1 hb
    · rw [bl_pos h0] at c1 ⊢
      have := ih (n / 2) (c + 1) (by omega) (by omega) (by omega) (by omega)
      refine Ev.step (fun k => by rw [spec_l1Bits.l0]) ?_
      simp only [if_pos (show ((n : Nat) : Int) > 0 by omega)]
      have e : wrap64 (Int.tdiv (n : Int) 2) = ((n / 2 : Nat) : Int) := by
        rw [Int.tdiv_eq_ediv_of_nonneg (by omega), w64 (by omega) (by omega)]
        omega
      rw [e]
      clear e
      rw [w64 (by omega) (by omega), show c + (((bl (n / 2) + 1 : Nat)) : Int) = c + 1 + ((bl (n / 2) : Nat) : Int) by omega]
      exact this

theorem specBits_eq {l : List Int} (h : Dg l) (hl : l.length ≤ 1048576) : Ev (fun k => spec_l1Bits.f k l) (nbits l) := by
  unfold spec_l1Bits.f nbits
  by_cases h0 : l.length = 0
  · simp only [h0, Int.natCast_zero, if_true]
    exact Ev.now _
  · have b := h.getD (l.length - 1)
    have bb := bl_le (n := (l.getD (l.length - 1) 0).toNat) (k := 16) (by omega)
    have := specBits_loop (l.getD (l.length - 1) 0).toNat (l.getD (l.length - 1) 0).toNat (16 * ((l.length : Int) - 1)) (Nat.le_refl _) (by omega) (by omega) (by omega)
    rw [show (((l.getD (l.length - 1) 0).toNat : Nat) : Int) = l.getD (l.length - 1) 0 by omega] at this
    have e : wrap64 ((l.length : Int) - 1) = (l.length : Int) - 1 := w64 (by omega) (by omega)
    have q0 : 0 ≤ (l.length : Int) - 1 := by clear e; omega
    have q1 : (l.length : Int) - 1 < l.length := by clear e; omega
    have q2 : ¬ (l.length : Int) = 0 := by clear e; omega
    have q3 : ((l.length : Int) - 1).toNat = l.length - 1 := by clear e; omega
    simp only [if_neg h0, if_neg q2, e, if_pos q0, if_pos q1, rd, q3]
    clear e
    rw [w64 (n := 16 * ((l.length : Int) - 1)) (by omega) (by omega)]
    exact this

theorem digit_eq (l : List Int) {i : Int} (h : 0 ≤ i) : spec_l1Digit.f l i = some (l.getD i.toNat 0) := by
  unfold spec_l1Digit.f
  by_cases h1 : i < (l.length : Int)
  · simp only [if_pos h1, if_pos h, rd]
  · simp only [if_neg h1]
    rw [List.getD_eq_getElem?_getD, List.getElem?_eq_none (by omega)]
    rfl

/-- Byte q of digits, from the lowest on. -/
def byteAt (l : List Int) (q : Nat) : Int := (l.getD (q / 2) 0 / (if q % 2 = 0 then 1 else 256)) % 256

/-- The n lowest bytes, the highest first. -/
def bytesOf' (l : List Int) : Nat → List Int
  | 0 => []
  | n + 1 => byteAt l n :: bytesOf' l n

theorem bytesOf_len (l : List Int) (n : Nat) : (bytesOf' l n).length = n := by
  induction n with
  | zero => rfl
  | succ n ih => simp [bytesOf', ih]

theorem bytesOf_get (l : List Int) : ∀ (n p : Nat), p < n → (bytesOf' l n).getD p 0 = byteAt l (n - 1 - p) := by
  intro n
  induction n with
  | zero => intro p h; omega
  | succ n ih =>
    intro p h
    cases p with
    | zero => simp [bytesOf']
    | succ p =>
      rw [bytesOf', List.getD_cons_succ, ih p (by omega)]
      congr 1
      omega

theorem specBytes_loop (l : List Int) : ∀ (n : Nat) (x : List Int), n ≤ 128 → x.length ≤ 128 - n → Ev (fun k => spec_NatBytes.l0 k l x ((n : Int) - 1)) (x ++ bytesOf' l n, true) := by
  intro n
  induction n with
  | zero =>
    intro x _ _
    refine Ev.step (fun k => by rw [spec_NatBytes.l0]) ?_
    simp only [if_neg (show ¬ ((0 : Nat) : Int) - 1 ≥ 0 by omega), bytesOf', List.append_nil]
    exact Ev.now _
  | succ n ih =>
    intro x hn hx
    have := ih (x ++ [byteAt l n]) (by omega) (by simp; omega)
    rw [List.append_assoc, List.singleton_append] at this
    refine Ev.step (fun k => by rw [spec_NatBytes.l0]) ?_
    have e0 : ((n + 1 : Nat) : Int) - 1 = (n : Int) := by omega
    have e1 : wrap64 (Int.tdiv (n : Int) 2) = ((n / 2 : Nat) : Int) := by rw [Int.tdiv_eq_ediv_of_nonneg (by omega), w64 (by omega) (by omega)]; omega
    have e2 : wrap64 (8 * Int.tmod (n : Int) 2) = ((8 * (n % 2) : Nat) : Int) := by rw [Int.tmod_eq_emod_of_nonneg (by omega), w64 (by omega) (by omega)]; omega
    have e3 : wrap64 ((n : Int) - 1) = (n : Int) - 1 := w64 (by omega) (by omega)
    have e4 : ∀ t : Int, (shr .i64 t ((8 * (n % 2) : Nat) : Int)) % 256 = (t / (if n % 2 = 0 then 1 else 256)) % 256 := by
      intro t
      unfold shr
      clear e1 e2 e3 this
      rcases Nat.mod_two_eq_zero_or_one n with h | h
      · rw [h]; simp
      · rw [h]; simp [IntKind.bits]
    have q0 : (n : Int) ≥ 0 := by clear e1 e2 e3 e4 this; omega
    have q1 : 0 ≤ ((n / 2 : Nat) : Int) := by clear e1 e2 e3 e4 this; omega
    have q2 : 0 ≤ ((8 * (n % 2) : Nat) : Int) := by clear e1 e2 e3 e4 this; omega
    have q3 : x.length < 140737488355328 := by clear e1 e2 e3 e4 this; omega
    simp only [e0, e1, e2, e3, e4, if_pos q0, digit_eq _ q1, Option.bind_some, Int.toNat_natCast, if_pos q2, if_pos q3]
    exact this

/-- The bytes that i digits have laid into a row of s. -/
structure Laid (l o : List Int) (s i : Nat) : Prop where
  len : o.length = s
  at_ : ∀ p, p < s → o.getD p 0 = if (s - 1 - p) / 2 < i then byteAt l (s - 1 - p) else 0

theorem laid_step_lo {l o : List Int} {s i : Nat} (h : Laid l o s i) (hi : 2 * i + 1 ≤ s) : ∀ p, p < s → (o.set (s - 1 - 2 * i) (l.getD i 0 % 256)).getD p 0 = if (s - 1 - p) / 2 < i ∨ s - 1 - p = 2 * i then byteAt l (s - 1 - p) else 0 := by
  intro p hp
  rw [getD_set, h.len]
  by_cases e : s - 1 - 2 * i = p
  · rw [if_pos ⟨e, by omega⟩, if_pos (by omega), show s - 1 - p = 2 * i by omega]
    unfold byteAt
    rw [show 2 * i / 2 = i by omega, if_pos (by omega), Int.ediv_one]
  · rw [if_neg (fun k => e k.1), h.at_ p hp]
    by_cases e2 : (s - 1 - p) / 2 < i
    · rw [if_pos e2, if_pos (.inl e2)]
    · rw [if_neg e2, if_neg (by omega)]

theorem laid_step {l o : List Int} {s i : Nat} (h : Laid l o s i) (hi : 2 * i + 2 ≤ s) :
    Laid l ((o.set (s - 1 - 2 * i) (l.getD i 0 % 256)).set (s - 2 - 2 * i) (l.getD i 0 / 256 % 256)) s (i + 1) := by
  refine ⟨by simp [h.len], fun p hp => ?_⟩
  rw [getD_set, List.length_set, h.len]
  by_cases e : s - 2 - 2 * i = p
  · rw [if_pos ⟨e, by omega⟩, if_pos (by omega), show s - 1 - p = 2 * i + 1 by omega]
    unfold byteAt
    rw [show (2 * i + 1) / 2 = i by omega, if_neg (by omega)]
  · rw [if_neg (fun k => e k.1), laid_step_lo h (by omega) p hp]
    by_cases e2 : (s - 1 - p) / 2 < i ∨ s - 1 - p = 2 * i
    · rw [if_pos e2, if_pos (by omega)]
    · rw [if_neg e2, if_neg (by omega)]

theorem laid_last {l o : List Int} {s i : Nat} (h : Laid l o s i) (hi : 2 * i + 1 = s) : Laid l (o.set (s - 1 - 2 * i) (l.getD i 0 % 256)) s (i + 1) := by
  refine ⟨by simp [h.len], fun p hp => ?_⟩
  rw [laid_step_lo h (by omega) p hp]
  by_cases e2 : (s - 1 - p) / 2 < i ∨ s - 1 - p = 2 * i
  · rw [if_pos e2, if_pos (by omega)]
  · rw [if_neg e2, if_neg (by omega)]

theorem laid_done {l o : List Int} {s : Nat} (h : Laid l o s l.length) : o = bytesOf' l s := by
  apply List.ext_getElem (by rw [h.len, bytesOf_len])
  intro p h1 h2
  have a := h.at_ p (by rw [← h.len]; exact h1)
  have b := bytesOf_get l s p (by rw [bytesOf_len] at h2; exact h2)
  rw [List.getD_eq_getElem?_getD, List.getElem?_eq_getElem h1, Option.getD_some] at a
  rw [List.getD_eq_getElem?_getD, List.getElem?_eq_getElem h2, Option.getD_some] at b
  rw [a, b]
  by_cases e : (s - 1 - p) / 2 < l.length
  · rw [if_pos e]
  · rw [if_neg e]
    unfold byteAt
    rw [List.getD_eq_getElem?_getD, List.getElem?_eq_none (by omega)]
    simp

theorem implBytes_loop {l : List Int} (hd : Dg l) {s : Nat} (hs : s ≤ 128) (hls : 2 * l.length ≤ s + 1) : ∀ (d i : Nat) (o : List Int), l.length = i + d → Laid l o s i →
    Ev (fun k => impl_NatBytes.l0 k (s : Int) o l (l.length : Int) (i : Int)) (bytesOf' l s, true) := by
  intro d
  induction d with
  | zero =>
    intro i o hi h
    obtain rfl : i = l.length := by omega
    refine Ev.step (fun k => by rw [impl_NatBytes.l0]) ?_
    simp only [if_neg (show ¬ (l.length : Int) < (l.length : Int) by omega)]
    rw [laid_done h]
    exact Ev.now _
  | succ d ih =>
    intro i o hi h
    have b := hd.getD i
    have hlen := h.len
    refine Ev.step (fun k => by rw [impl_NatBytes.l0]) ?_
    have e1 : wrap64 (wrap64 ((s : Int) - 1) - wrap64 (2 * (i : Int))) = ((s - 1 - 2 * i : Nat) : Int) := by
      rw [w64 (n := (s : Int) - 1) (by omega) (by omega), w64 (n := 2 * (i : Int)) (by omega) (by omega), w64 (by omega) (by omega)]
      omega
    have e2 : wrap64 (wrap64 ((s : Int) - 2) - wrap64 (2 * (i : Int))) = (s : Int) - 2 - 2 * i := by
      rw [w64 (n := (s : Int) - 2) (by omega) (by omega), w64 (n := 2 * (i : Int)) (by omega) (by omega), w64 (by omega) (by omega)]
    have e3 : wrap64 ((i : Int) + 1) = ((i + 1 : Nat) : Int) := wsucc (by omega)
    have q0 : (i : Int) < (l.length : Int) := by clear e1 e2 e3; omega
    have q1 : 0 ≤ (i : Int) := by clear e1 e2 e3; omega
    have q2 : 0 ≤ ((s - 1 - 2 * i : Nat) : Int) := by clear e1 e2 e3; omega
    have q3 : ((s - 1 - 2 * i : Nat) : Int) < (o.length : Int) := by clear e1 e2 e3; omega
    simp only [e1, e2, e3, if_pos q0, if_pos q1, if_pos q2, if_pos q3, Option.bind_some, rd, Int.toNat_natCast]
    clear e1 e2 e3 q0 q1 q2 q3
    by_cases hk : 2 * i + 2 ≤ s
    · have q4 : (s : Int) - 2 - 2 * i ≥ 0 := by omega
      have q5 : 0 ≤ (s : Int) - 2 - 2 * i := by omega
      have q6 : (s : Int) - 2 - 2 * i < (o.length : Int) := by omega
      have q7 : ((s : Int) - 2 - 2 * i).toNat = s - 2 - 2 * i := by omega
      simp only [if_pos q4, if_pos q5, if_pos q6, q7]
      exact ih (i + 1) _ (by omega) (laid_step h hk)
    · have q4 : ¬ (s : Int) - 2 - 2 * i ≥ 0 := by omega
      simp only [if_neg q4]
      exact ih (i + 1) _ (by omega) (laid_last h (by omega))

theorem bits_len {l : List Int} (h : Dg l) (hn : Nm l) {s : Nat} (hb : nbits l ≤ 8 * (s : Int)) : 2 * l.length ≤ s + 1 := by
  unfold nbits at hb
  by_cases h0 : l.length = 0
  · omega
  · rw [if_neg h0] at hb
    have b := h.getD (l.length - 1)
    have hne : l.getD (l.length - 1) 0 ≠ 0 := by
      intro e
      apply hn
      rw [List.getLast?_eq_getElem?, List.getElem?_eq_getElem (by omega)]
      rw [List.getD_eq_getElem?_getD, List.getElem?_eq_getElem (by omega)] at e
      simpa using e
    have bp : 1 ≤ bl (l.getD (l.length - 1) 0).toNat := by rw [bl_pos (by omega)]; omega
    omega

theorem both (a : List Int) (n : Int) (h1 : a.length ≤ 1048576) :
    ∃ r bb, r.length ≤ 128 ∧ Ev (fun k => spec_NatBytes.f k a n) (r, bb) ∧ Ev (fun k => impl_NatBytes.f k a n) (r, bb) := by
  have os := specNatOk_eq a (by omega)
  have oi := implNatOk_eq a (by omega)
  have js : Ev (fun k => spec_NatBytes.j0 k a n true) (([] : List Int), false) := Ev.step (fun k => by rw [spec_NatBytes.j0]) (by simp only [if_true]; exact Ev.now _)
  have ji : Ev (fun k => impl_NatBytes.j0 k a n true) (([] : List Int), false) := Ev.step (fun k => by rw [impl_NatBytes.j0]) (by simp only [if_true]; exact Ev.now _)
  unfold spec_NatBytes.f impl_NatBytes.f
  cases ka : natOk a with
  | false =>
    rw [ka] at os oi
    refine ⟨[], false, by simp, Ev.bind os ?_, Ev.bind oi ?_⟩
    · simpa using js
    · simpa using ji
  | true =>
    rw [ka] at os oi
    obtain ⟨la, da, na⟩ := (natOk_iff a).1 ka
    by_cases hn : 0 ≤ n ∧ n ≤ 128
    · have hs := specBits_eq da h1
      have hi := implBits_eq da h1
      have e8 : wrap64 (8 * n) = 8 * n := w64 (by omega) (by omega)
      by_cases hb : nbits a > 8 * n
      · refine ⟨[], false, by simp, Ev.bind os ?_, Ev.bind oi ?_⟩
        · simp only [if_true, in_eq, hn.1, hn.2, and_self, decide_true, Option.bind_some, e8]
          refine Ev.bind hs ?_
          simp only [hb, decide_true]
          exact js
        · simp only [if_true, within_eq, hn.1, hn.2, and_self, decide_true, Option.bind_some, e8]
          refine Ev.bind hi ?_
          simp only [hb, decide_true]
          exact ji
      · obtain ⟨s, rfl⟩ : ∃ s : Nat, n = s := ⟨n.toNat, by clear e8; omega⟩
        have hle : s ≤ 128 := by clear e8; omega
        have hls := bits_len da na (s := s) (by clear e8; omega)
        refine ⟨bytesOf' a s, true, by rw [bytesOf_len]; exact hle, Ev.bind os ?_, Ev.bind oi ?_⟩
        · simp only [if_true, in_eq, hn.1, hn.2, and_self, decide_true, Option.bind_some, e8]
          refine Ev.bind hs ?_
          simp only [hb, decide_false]
          refine Ev.step (fun k => by rw [spec_NatBytes.j0]) ?_
          simp only [Bool.false_eq_true, if_false]
          clear e8
          rw [w64 (by omega) (by omega)]
          exact specBytes_loop a s [] hle (by simp)
        · simp only [if_true, within_eq, hn.1, hn.2, and_self, decide_true, Option.bind_some, e8]
          refine Ev.bind hi ?_
          simp only [hb, decide_false]
          refine Ev.step (fun k => by rw [impl_NatBytes.j0]) ?_
          simp only [Bool.false_eq_true, if_false, if_pos hn.1, Int.toNat_natCast, if_pos (show s ≤ 281474976710656 by clear e8; omega)]
          refine implBytes_loop da hle hls a.length 0 _ (by omega) ⟨by simp, fun p hp => ?_⟩
          rw [if_neg (by omega), List.getD_eq_getElem?_getD, List.getElem?_replicate]
          split <;> rfl
    · refine ⟨[], false, by simp, Ev.bind os ?_, Ev.bind oi ?_⟩
      · simp only [if_true, in_eq, hn, decide_false, Option.bind_some]
        simpa using js
      · simp only [if_true, within_eq, hn, decide_false, Option.bind_some]
        simpa using ji

theorem FnExactNatBytes : laws_FnExactNatBytes.Pure := by
  intro a n _ _ _ _
  refine Ev.rounds (r := true) ?_
  unfold laws_FnExactNatBytes.f
  by_cases h : (a.length : Int) > 1048576
  · simp only [if_pos h]; exact Ev.now _
  simp only [if_neg h]
  have ta := toIntS_eq a (by omega)
  have ea := eqIntS_eq a (by omega)
  obtain ⟨r, bb, hl, r1, r2⟩ := both a n (by omega)
  have er := eqByteS_eq r (by omega)
  have ma := markIntS_eq a (m0 := 1) (by omega) (by omega) (by omega)
  have mr := markByteS_eq r (m0 := 1) (by omega) (by omega) (by omega)
  have hr := heldByteS_eq r.length (m0 := 1) (by omega) (by omega) (by omega)
  have f1 : ¬ (1 : Int) + a.length < 0 := by omega
  have f2 : ¬ (1 : Int) + r.length < 0 := by omega
  refine Ev.bind ta (Ev.bind r1 (Ev.bind ta (Ev.bind r2 (Ev.bind er ?_))))
  simp only [if_true, bne_self_eq_false]
  refine Ev.step (fun k => by rw [laws_FnExactNatBytes.j0]) ?_
  simp only [Bool.false_eq_true, if_false]
  refine Ev.bind ta (Ev.bind ea ?_)
  simp only [if_true]
  refine Ev.bind ma ?_
  simp only [if_neg f1]
  refine Ev.bind er ?_
  simp only [if_true, bne_self_eq_false]
  refine Ev.step (fun k => by rw [laws_FnExactNatBytes.j1]) ?_
  simp only [Bool.false_eq_true, if_false]
  refine Ev.bind mr (Ev.bind hr ?_)
  simp only [if_neg f2, if_true]
  refine Ev.bind ta (Ev.bind r2 (Ev.bind er ?_))
  simp only [if_true, bne_self_eq_false]
  refine Ev.step (fun k => by rw [laws_FnExactNatBytes.j2]) ?_
  simp only [Bool.false_eq_true, if_false]
  refine Ev.bind hr ?_
  simp only [if_neg f2, if_true]
  exact Ev.now _

end Go.Proofs.Ytohplbcbkggjaab.Pure
