/- The law FnExactNatOk answers true at all digits: both ask the same of them. -/
import Derived.Test.YtohplbcbkggjaaaPFnExactNatOkx1
import Derived.Test.YtohplbcbkggjaaaMDig
namespace Go.Proofs.Ytohplbcbkggjaaa.Pure
open Go.RowKit Go.Proofs.Ytohplbcbkggjaaa.PFnExactNatOk Go.Proofs.YtohplbcbkggjaaaW.PrintWords Go.Proofs.YtohplbcbkggjaaaW.PrintLast Go.Proofs.Ytohplbcbkggjaaa.Plain

set_option linter.unusedVariables false
set_option linter.unusedSimpArgs false

theorem w64 {n : Int} (h : -9223372036854775808 ≤ n) (h' : n ≤ 9223372036854775807) : wrap64 n = n := by
  unfold wrap64
  omega

theorem wf64 {n : Int} (h : (Lit.int .i64 n).wf = true) : -9223372036854775808 ≤ n ∧ n ≤ 9223372036854775807 := by
  simpa [Lit.wf, IntKind.min, IntKind.max, IntKind.signed, IntKind.bits] using h

theorem in_eq (n a b : Int) : spec_l1In.f n a b = some (decide (a ≤ n ∧ n ≤ b)) := by
  unfold spec_l1In.f
  by_cases h : n ≥ a
  · rw [if_pos h]
    have : a ≤ n := h
    simp [this]
  · rw [if_neg h]
    have : ¬ a ≤ n := h
    simp [this]

theorem within_eq (n a b : Int) : impl_within.f n a b = some (decide (a ≤ n ∧ n ≤ b)) := by
  unfold impl_within.f
  by_cases h : n ≥ a
  · rw [if_pos h]
    have : a ≤ n := h
    simp [this]
  · rw [if_neg h]
    have : ¬ a ≤ n := h
    simp [this]

theorem toIntS_loop (l : List Int) (hl : l.length ≤ 1099511627776) : ∀ (d : Nat) (x : List Int) (i : Int), 0 ≤ i → (l.length : Int) - i = d → x.length = l.length → (∀ j : Nat, (j : Int) < i → x.getD j 0 = l.getD j 0) →
    Ev (fun k => laws_toIntS.l0 k l x i) l := by
  intro d
  induction d with
  | zero =>
    intro x i h0 hd hx he
    refine Ev.step (fun k => by rw [laws_toIntS.l0]) ?_
    simp only [if_neg (show ¬ i < (l.length : Int) by omega)]
    have : x = l := by
      apply List.ext_getElem hx
      intro j h1 h2
      have := he j (by omega)
      rwa [List.getD_eq_getElem?_getD, List.getD_eq_getElem?_getD, List.getElem?_eq_getElem h1, List.getElem?_eq_getElem h2] at this
    rw [this]
    exact Ev.now _
  | succ d ih =>
    intro x i h0 hd hx he
    refine Ev.step (fun k => by rw [laws_toIntS.l0]) ?_
    simp only [if_pos (show i < (l.length : Int) by omega), if_pos h0, hx]
    rw [w64 (n := i + 1) (by omega) (by omega)]
    refine ih _ (i + 1) (by omega) (by omega) (by simpa using hx) (fun j hj => ?_)
    unfold rd
    rw [List.getD_eq_getElem?_getD, List.getElem?_set]
    by_cases hji : i.toNat = j
    · subst hji
      rw [if_pos rfl, if_pos (by omega)]
      rfl
    · rw [if_neg hji, ← List.getD_eq_getElem?_getD]
      exact he j (by omega)

theorem toIntS_eq (l : List Int) (hl : l.length ≤ 1099511627776) : Ev (fun k => laws_toIntS.f k l) l := by
  unfold laws_toIntS.f
  simp only [if_pos (show 0 ≤ (l.length : Int) by omega), if_pos (show ((l.length : Int)).toNat ≤ 35184372088832 by omega)]
  exact toIntS_loop l hl l.length _ 0 (by omega) (by omega) (by simp) (fun j hj => by omega)

theorem eqIntS_loop (l : List Int) (hl : l.length ≤ 1099511627776) : ∀ (d : Nat) (i : Int), 0 ≤ i → (l.length : Int) - i = d → Ev (fun k => laws_eqIntS.l0 k l l i) true := by
  intro d
  induction d with
  | zero =>
    intro i h0 hd
    refine Ev.step (fun k => by rw [laws_eqIntS.l0]) ?_
    simp only [if_neg (show ¬ i < (l.length : Int) by omega)]
    exact Ev.now _
  | succ d ih =>
    intro i h0 hd
    refine Ev.step (fun k => by rw [laws_eqIntS.l0]) ?_
    simp only [if_pos (show i < (l.length : Int) by omega), if_pos h0, if_true]
    rw [w64 (n := i + 1) (by omega) (by omega)]
    exact ih (i + 1) (by omega) (by omega)

theorem eqIntS_eq (l : List Int) (hl : l.length ≤ 1099511627776) : Ev (fun k => laws_eqIntS.f k l l) true := by
  unfold laws_eqIntS.f
  simp only [if_true]
  exact eqIntS_loop l hl l.length 0 (by omega) (by omega)

theorem specNatOk_loop (l : List Int) (hl : l.length ≤ 1099511627776) : ∀ (d : Nat) (i : Int), 0 ≤ i → (l.length : Int) - i = d →
    Ev (fun k => spec_NatOk.l0 k l i) ((l.drop i.toNat).all (fun d => decide (0 ≤ d ∧ d ≤ 65535)) && decide (l.length ≤ 64) && (l.isEmpty || (l.getD (l.length - 1) 0 != 0))) := by
  intro d
  induction d with
  | zero =>
    intro i h0 hd
    refine Ev.step (fun k => by rw [spec_NatOk.l0]) ?_
    simp only [if_neg (show ¬ i < (l.length : Int) by omega)]
    rw [List.drop_eq_nil_of_le (by omega)]
    by_cases h1 : (l.length : Int) ≤ 64
    · simp only [if_pos h1, show l.length ≤ 64 by omega]
      by_cases h2 : (l.length : Int) = 0
      · obtain rfl : l = [] := List.length_eq_zero_iff.1 (by omega)
        simpa using Ev.now true
      · have e : wrap64 ((l.length : Int) - 1) = (l.length : Int) - 1 := w64 (by omega) (by omega)
        have hne : l.isEmpty = false := by cases l with | nil => simp at h2 | cons a l => rfl
        simp only [if_neg h2, e, if_pos (show 0 ≤ (l.length : Int) - 1 by omega), if_pos (show (l.length : Int) - 1 < l.length by omega), hne, rd, show ((l.length : Int) - 1).toNat = l.length - 1 by omega]
        simpa using Ev.now _
    · simp only [if_neg h1, show ¬ l.length ≤ 64 by omega]
      simpa using Ev.now false
  | succ d ih =>
    intro i h0 hd
    refine Ev.step (fun k => by rw [spec_NatOk.l0]) ?_
    have hi : i.toNat < l.length := by omega
    rw [List.drop_eq_getElem_cons hi, List.all_cons]
    have hr : rd l i = l[i.toNat] := by simp [rd, List.getD_eq_getElem?_getD, List.getElem?_eq_getElem hi]
    simp only [if_pos (show i < (l.length : Int) by omega), if_pos h0, in_eq, hr, Option.bind_some]
    by_cases h1 : 0 ≤ l[i.toNat] ∧ l[i.toNat] ≤ 65535
    · simp only [h1.1, h1.2, and_self, decide_true, if_true, Bool.true_and]
      rw [w64 (by omega) (by omega)]
      have := ih (i + 1) (by omega) (by omega)
      rwa [show (i + 1).toNat = i.toNat + 1 by omega] at this
    · simp only [h1, decide_false, Bool.false_and]
      simpa using Ev.now false

theorem specNatOk_eq (l : List Int) (hl : l.length ≤ 1099511627776) : Ev (fun k => spec_NatOk.f k l) (natOk l) := by
  unfold spec_NatOk.f natOk
  have := specNatOk_loop l hl l.length 0 (by omega) (by omega)
  rw [Int.toNat_zero, List.drop_zero] at this
  rwa [Bool.and_comm (decide (l.length ≤ 64))]

theorem allWithin_loop (l : List Int) (a b : Int) (hl : l.length ≤ 1099511627776) : ∀ (d : Nat) (i : Int), 0 ≤ i → (l.length : Int) - i = d →
    Ev (fun k => impl_allWithin.l0 k a b l (l.length : Int) i) ((l.drop i.toNat).all (fun d => decide (a ≤ d ∧ d ≤ b))) := by
  intro d
  induction d with
  | zero =>
    intro i h0 hd
    refine Ev.step (fun k => by rw [impl_allWithin.l0]) ?_
    simp only [if_neg (show ¬ i < (l.length : Int) by omega)]
    rw [List.drop_eq_nil_of_le (by omega)]
    exact Ev.now _
  | succ d ih =>
    intro i h0 hd
    refine Ev.step (fun k => by rw [impl_allWithin.l0]) ?_
    have hi : i.toNat < l.length := by omega
    rw [List.drop_eq_getElem_cons hi, List.all_cons]
    have hr : rd l i = l[i.toNat] := by simp [rd, List.getD_eq_getElem?_getD, List.getElem?_eq_getElem hi]
    simp only [if_pos (show i < (l.length : Int) by omega), if_pos h0, within_eq, hr, Option.bind_some]
    by_cases h1 : a ≤ l[i.toNat] ∧ l[i.toNat] ≤ b
    · simp only [h1.1, h1.2, and_self, decide_true, if_true, Bool.true_and]
      rw [w64 (by omega) (by omega)]
      have := ih (i + 1) (by omega) (by omega)
      rwa [show (i + 1).toNat = i.toNat + 1 by omega] at this
    · simp only [h1, decide_false, Bool.false_and]
      simpa using Ev.now false

theorem allWithin_eq (l : List Int) (a b : Int) (hl : l.length ≤ 1099511627776) : Ev (fun k => impl_allWithin.f k l a b) (l.all (fun d => decide (a ≤ d ∧ d ≤ b))) := by
  unfold impl_allWithin.f
  have := allWithin_loop l a b hl l.length 0 (by omega) (by omega)
  rwa [Int.toNat_zero, List.drop_zero] at this

theorem implNatOk_eq (l : List Int) (hl : l.length ≤ 1099511627776) : Ev (fun k => impl_NatOk.f k l) (natOk l) := by
  unfold impl_NatOk.f natOk
  by_cases h1 : (l.length : Int) ≤ 64
  · simp only [if_pos h1, show l.length ≤ 64 by omega, decide_true, Bool.true_and]
    refine Ev.bind (allWithin_eq l 0 65535 hl) ?_
    by_cases h3 : l.all (fun d => decide (0 ≤ d ∧ d ≤ 65535)) = true
    · simp only [h3, if_true, Bool.true_and]
      by_cases h2 : (l.length : Int) = 0
      · obtain rfl : l = [] := List.length_eq_zero_iff.1 (by omega)
        simpa using Ev.now true
      · have e : wrap64 ((l.length : Int) - 1) = (l.length : Int) - 1 := w64 (by omega) (by omega)
        have hne : l.isEmpty = false := by cases l with | nil => simp at h2 | cons a l => rfl
        simp only [if_neg h2, e, if_pos (show 0 ≤ (l.length : Int) - 1 by omega), if_pos (show (l.length : Int) - 1 < l.length by omega), hne, rd, show ((l.length : Int) - 1).toNat = l.length - 1 by omega]
        simpa using Ev.now _
    · simp only [h3, Bool.false_and]
      simpa using Ev.now false
  · simp only [if_neg h1, show ¬ l.length ≤ 64 by omega]
    simpa using Ev.now false

theorem FnExactNatOk : laws_FnExactNatOk.Pure := by
  intro l _ _ hw
  refine Ev.rounds (r := true) ?_
  unfold laws_FnExactNatOk.f
  by_cases h : (l.length : Int) > 1048576
  · simp only [if_pos h]; exact Ev.now _
  · simp only [if_neg h]
    have ht := toIntS_eq l (by omega)
    refine Ev.bind ht (Ev.bind (specNatOk_eq l (by omega)) (Ev.bind ht (Ev.bind (implNatOk_eq l (by omega)) ?_)))
    simp only [bne_self_eq_false]
    refine Ev.bind ht (Ev.bind (eqIntS_eq l (by omega)) ?_)
    simp only [if_true]
    exact Ev.now _

end Go.Proofs.Ytohplbcbkggjaaa.Pure
