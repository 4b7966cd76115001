/- The law FnExactModInv answers true at all digits: both inverses are the digits of the one inverse between 0 and the modulus, or none. -/
import Derived.Test.YtehdmpfeddieoaaPFnExactModInvx9
import Derived.Test.YtehdmpfeddieoaaMDig
import Derived.Test.YtehdmpfeddieoaaMBits
import Derived.Test.YtehdmpfeddieoaaMDiv
import Derived.Test.YtehdmpfeddieoaaMInv
import Derived.Test.YtehdmpfeddieoaaMModInv
namespace Go.Proofs.Ytehdmpfeddieoaa.Pure
open Go.RowKit Go.Proofs.Ytehdmpfeddieoaa.PFnExactModInv Go.Proofs.YtehdmpfeddieoaaW.PrintWords Go.Proofs.YtehdmpfeddieoaaW.PrintLast Go.Proofs.Ytehdmpfeddieoaa.Plain

set_option linter.unusedVariables false
set_option linter.unusedSimpArgs false

theorem w64 {n : Int} (h : -9223372036854775808 ≤ n) (h' : n ≤ 9223372036854775807) : wrap64 n = n := by
  unfold wrap64
  omega

theorem wf64 {n : Int} (h : (Lit.int .i64 n).wf = true) : -9223372036854775808 ≤ n ∧ n ≤ 9223372036854775807 := by
  simpa [Lit.wf, IntKind.min, IntKind.max, IntKind.signed, IntKind.bits] using h

theorem wsucc {i : Nat} (h : i ≤ 1099511627776) : wrap64 ((i : Int) + 1) = ((i + 1 : Nat) : Int) := by
  rw [w64 (by omega) (by omega)]
  omega

theorem wpred {i : Nat} (h : i ≤ 1099511627776) : wrap64 (((i + 1 : Nat) : Int) - 1) = (i : Int) := by
  rw [w64 (by omega) (by omega)]
  omega

theorem in_eq (n a b : Int) : spec_l1In.f n a b = some (decide (a ≤ n ∧ n ≤ b)) := by
  unfold spec_l1In.f
  by_cases h : n ≥ a
  · rw [if_pos h]
    have : a ≤ n := h
    simp [this]
  · rw [if_neg h]
    have : ¬ a ≤ n := h
    simp [this]

theorem within_eq (n a b : Int) : impl_within.f n a b = some (decide (a ≤ n ∧ n ≤ b)) := by
  unfold impl_within.f
  by_cases h : n ≥ a
  · rw [if_pos h]
    have : a ≤ n := h
    simp [this]
  · rw [if_neg h]
    have : ¬ a ≤ n := h
    simp [this]

theorem toIntS_loop (l : List Int) (hl : l.length ≤ 1099511627776) : ∀ (d : Nat) (x : List Int) (i : Int), 0 ≤ i → (l.length : Int) - i = d → x.length = l.length → (∀ j : Nat, (j : Int) < i → x.getD j 0 = l.getD j 0) →
    Ev (fun k => laws_toIntS.l0 k l x i) l := by
  intro d
  induction d with
  | zero =>
    intro x i h0 hd hx he
    refine Ev.step (fun k => by rw [laws_toIntS.l0]) ?_
    simp only [if_neg (show ¬ i < (l.length : Int) by omega)]
    have : x = l := by
      apply List.ext_getElem hx
      intro j h1 h2
      have := he j (by omega)
      rwa [List.getD_eq_getElem?_getD, List.getD_eq_getElem?_getD, List.getElem?_eq_getElem h1, List.getElem?_eq_getElem h2] at this
    rw [this]
    exact Ev.now _
  | succ d ih =>
    intro x i h0 hd hx he
    refine Ev.step (fun k => by rw [laws_toIntS.l0]) ?_
    simp only [if_pos (show i < (l.length : Int) by omega), if_pos h0, hx]
    rw [w64 (n := i + 1) (by omega) (by omega)]
    refine ih _ (i + 1) (by omega) (by omega) (by simpa using hx) (fun j hj => ?_)
    unfold rd
    rw [List.getD_eq_getElem?_getD, List.getElem?_set]
    by_cases hji : i.toNat = j
    · subst hji
      rw [if_pos rfl, if_pos (by omega)]
      rfl
    · rw [if_neg hji, ← List.getD_eq_getElem?_getD]
      exact he j (by omega)

theorem toIntS_eq (l : List Int) (hl : l.length ≤ 1099511627776) : Ev (fun k => laws_toIntS.f k l) l := by
  unfold laws_toIntS.f
  simp only [if_pos (show 0 ≤ (l.length : Int) by omega), if_pos (show ((l.length : Int)).toNat ≤ 35184372088832 by omega)]
  exact toIntS_loop l hl l.length _ 0 (by omega) (by omega) (by simp) (fun j hj => by omega)

theorem eqIntS_loop (l : List Int) (hl : l.length ≤ 1099511627776) : ∀ (d : Nat) (i : Int), 0 ≤ i → (l.length : Int) - i = d → Ev (fun k => laws_eqIntS.l0 k l l i) true := by
  intro d
  induction d with
  | zero =>
    intro i h0 hd
    refine Ev.step (fun k => by rw [laws_eqIntS.l0]) ?_
    simp only [if_neg (show ¬ i < (l.length : Int) by omega)]
    exact Ev.now _
  | succ d ih =>
    intro i h0 hd
    refine Ev.step (fun k => by rw [laws_eqIntS.l0]) ?_
    simp only [if_pos (show i < (l.length : Int) by omega), if_pos h0, if_true]
    rw [w64 (n := i + 1) (by omega) (by omega)]
    exact ih (i + 1) (by omega) (by omega)

theorem eqIntS_eq (l : List Int) (hl : l.length ≤ 1099511627776) : Ev (fun k => laws_eqIntS.f k l l) true := by
  unfold laws_eqIntS.f
  simp only [if_true]
  exact eqIntS_loop l hl l.length 0 (by omega) (by omega)

theorem markIntS_loop (n : Nat) (m0 : Int) (hm : 1 ≤ m0) (hm' : m0 ≤ 1099511627776) (hl : n ≤ 1099511627776) : ∀ (d : Nat) (x : List Int) (i : Int), 0 ≤ i → (n : Int) - i = d → x.length = n →
    (∀ j : Nat, (j : Int) < i → x.getD j 0 = m0 + j) → Ev (fun k => laws_markIntS.l0 k x (m0 + i) i) (m0 + n, (List.range n).map (fun j => m0 + ((j : Nat) : Int))) := by
  intro d
  induction d with
  | zero =>
    intro x i h0 hd hx he
    refine Ev.step (fun k => by rw [laws_markIntS.l0]) ?_
    simp only [hx, if_neg (show ¬ i < (n : Int) by omega)]
    have : x = (List.range n).map (fun j => m0 + ((j : Nat) : Int)) := by
      apply List.ext_getElem (by simpa using hx)
      intro j h1 h2
      have := he j (by omega)
      rw [List.getD_eq_getElem?_getD, List.getElem?_eq_getElem h1] at this
      simpa using this
    rw [this, show m0 + i = m0 + (n : Int) by omega]
    exact Ev.now _
  | succ d ih =>
    intro x i h0 hd hx he
    refine Ev.step (fun k => by rw [laws_markIntS.l0]) ?_
    simp only [hx, if_pos (show i < (n : Int) by omega), if_pos h0]
    rw [w64 (n := i + 1) (by omega) (by omega), w64 (n := m0 + i + 1) (by omega) (by omega), show m0 + i + 1 = m0 + (i + 1) by omega]
    refine ih _ (i + 1) (by omega) (by omega) (by simpa using hx) (fun j hj => ?_)
    rw [List.getD_eq_getElem?_getD, List.getElem?_set]
    by_cases hji : i.toNat = j
    · subst hji
      rw [if_pos rfl, if_pos (by omega)]
      simp only [Option.getD_some]
      omega
    · rw [if_neg hji, ← List.getD_eq_getElem?_getD]
      exact he j (by omega)

def marked (n : Nat) (m0 : Int) : List Int := (List.range n).map (fun j => m0 + ((j : Nat) : Int))

theorem markIntS_eq (l : List Int) {m0 : Int} (hm : 1 ≤ m0) (hm' : m0 ≤ 1099511627776) (hl : l.length ≤ 1099511627776) : Ev (fun k => laws_markIntS.f k l m0) (m0 + l.length, marked l.length m0) := by
  unfold laws_markIntS.f
  have := markIntS_loop l.length m0 hm hm' hl l.length l 0 (by omega) (by omega) rfl (fun j hj => by omega)
  rwa [Int.add_zero] at this

theorem heldIntS_loop (n : Nat) (m0 : Int) (hm : 1 ≤ m0) (hm' : m0 ≤ 1099511627776) (hl : n ≤ 1099511627776) : ∀ (d : Nat) (i : Int), 0 ≤ i → (n : Int) - i = d →
    Ev (fun k => laws_heldIntS.l0 k (marked n m0) (m0 + i) i) (m0 + n) := by
  have hlen : (marked n m0).length = n := by simp [marked]
  intro d
  induction d with
  | zero =>
    intro i h0 hd
    refine Ev.step (fun k => by rw [laws_heldIntS.l0]) ?_
    simp only [hlen, if_neg (show ¬ i < (n : Int) by omega)]
    rw [show m0 + i = m0 + (n : Int) by omega]
    exact Ev.now _
  | succ d ih =>
    intro i h0 hd
    refine Ev.step (fun k => by rw [laws_heldIntS.l0]) ?_
    have hr : rd (marked n m0) i = m0 + i := by
      unfold rd marked
      rw [List.getD_eq_getElem?_getD, List.getElem?_map, List.getElem?_range (by omega)]
      simp only [Option.map_some, Option.getD_some]
      omega
    simp only [hlen, if_pos (show i < (n : Int) by omega), if_pos h0, hr, if_true]
    rw [w64 (n := i + 1) (by omega) (by omega), w64 (n := m0 + i + 1) (by omega) (by omega), show m0 + i + 1 = m0 + (i + 1) by omega]
    exact ih (i + 1) (by omega) (by omega)

theorem heldIntS_eq (n : Nat) {m0 : Int} (hm : 1 ≤ m0) (hm' : m0 ≤ 1099511627776) (hl : n ≤ 1099511627776) : Ev (fun k => laws_heldIntS.f k (marked n m0) m0) (m0 + n) := by
  unfold laws_heldIntS.f
  have := heldIntS_loop n m0 hm hm' hl n 0 (by omega) (by omega)
  rwa [Int.add_zero] at this

theorem specNatOk_loop (l : List Int) (hl : l.length ≤ 1099511627776) : ∀ (d : Nat) (i : Int), 0 ≤ i → (l.length : Int) - i = d →
    Ev (fun k => spec_NatOk.l0 k l i) ((l.drop i.toNat).all (fun d => decide (0 ≤ d ∧ d ≤ 65535)) && decide (l.length ≤ 64) && (l.isEmpty || (l.getD (l.length - 1) 0 != 0))) := by
  intro d
  induction d with
  | zero =>
    intro i h0 hd
    refine Ev.step (fun k => by rw [spec_NatOk.l0]) ?_
    simp only [if_neg (show ¬ i < (l.length : Int) by omega)]
    rw [List.drop_eq_nil_of_le (by omega)]
    by_cases h1 : (l.length : Int) ≤ 64
    · simp only [if_pos h1, show l.length ≤ 64 by omega]
      by_cases h2 : (l.length : Int) = 0
      · obtain rfl : l = [] := List.length_eq_zero_iff.1 (by omega)
        simpa using Ev.now true
      · have e : wrap64 ((l.length : Int) - 1) = (l.length : Int) - 1 := w64 (by omega) (by omega)
        have hne : l.isEmpty = false := by cases l with | nil => simp at h2 | cons a l => rfl
        simp only [if_neg h2, e, if_pos (show 0 ≤ (l.length : Int) - 1 by omega), if_pos (show (l.length : Int) - 1 < l.length by omega), hne, rd, show ((l.length : Int) - 1).toNat = l.length - 1 by omega]
        simpa using Ev.now _
    · simp only [if_neg h1, show ¬ l.length ≤ 64 by omega]
      simpa using Ev.now false
  | succ d ih =>
    intro i h0 hd
    refine Ev.step (fun k => by rw [spec_NatOk.l0]) ?_
    have hi : i.toNat < l.length := by omega
    rw [List.drop_eq_getElem_cons hi, List.all_cons]
    have hr : rd l i = l[i.toNat] := by simp [rd, List.getD_eq_getElem?_getD, List.getElem?_eq_getElem hi]
    simp only [if_pos (show i < (l.length : Int) by omega), if_pos h0, in_eq, hr, Option.bind_some]
    by_cases h1 : 0 ≤ l[i.toNat] ∧ l[i.toNat] ≤ 65535
    · simp only [h1.1, h1.2, and_self, decide_true, if_true, Bool.true_and]
      rw [w64 (by omega) (by omega)]
      have := ih (i + 1) (by omega) (by omega)
      rwa [show (i + 1).toNat = i.toNat + 1 by omega] at this
    · simp only [h1, decide_false, Bool.false_and]
      simpa using Ev.now false

theorem specNatOk_eq (l : List Int) (hl : l.length ≤ 1099511627776) : Ev (fun k => spec_NatOk.f k l) (natOk l) := by
  unfold spec_NatOk.f natOk
  have := specNatOk_loop l hl l.length 0 (by omega) (by omega)
  rw [Int.toNat_zero, List.drop_zero] at this
  rwa [Bool.and_comm (decide (l.length ≤ 64))]

theorem allWithin_loop (l : List Int) (a b : Int) (hl : l.length ≤ 1099511627776) : ∀ (d : Nat) (i : Int), 0 ≤ i → (l.length : Int) - i = d →
    Ev (fun k => impl_allWithin.l0 k a b l (l.length : Int) i) ((l.drop i.toNat).all (fun d => decide (a ≤ d ∧ d ≤ b))) := by
  intro d
  induction d with
  | zero =>
    intro i h0 hd
    refine Ev.step (fun k => by rw [impl_allWithin.l0]) ?_
    simp only [if_neg (show ¬ i < (l.length : Int) by omega)]
    rw [List.drop_eq_nil_of_le (by omega)]
    exact Ev.now _
  | succ d ih =>
    intro i h0 hd
    refine Ev.step (fun k => by rw [impl_allWithin.l0]) ?_
    have hi : i.toNat < l.length := by omega
    rw [List.drop_eq_getElem_cons hi, List.all_cons]
    have hr : rd l i = l[i.toNat] := by simp [rd, List.getD_eq_getElem?_getD, List.getElem?_eq_getElem hi]
    simp only [if_pos (show i < (l.length : Int) by omega), if_pos h0, within_eq, hr, Option.bind_some]
    by_cases h1 : a ≤ l[i.toNat] ∧ l[i.toNat] ≤ b
    · simp only [h1.1, h1.2, and_self, decide_true, if_true, Bool.true_and]
      rw [w64 (by omega) (by omega)]
      have := ih (i + 1) (by omega) (by omega)
      rwa [show (i + 1).toNat = i.toNat + 1 by omega] at this
    · simp only [h1, decide_false, Bool.false_and]
      simpa using Ev.now false

theorem allWithin_eq (l : List Int) (a b : Int) (hl : l.length ≤ 1099511627776) : Ev (fun k => impl_allWithin.f k l a b) (l.all (fun d => decide (a ≤ d ∧ d ≤ b))) := by
  unfold impl_allWithin.f
  have := allWithin_loop l a b hl l.length 0 (by omega) (by omega)
  rwa [Int.toNat_zero, List.drop_zero] at this

theorem implNatOk_eq (l : List Int) (hl : l.length ≤ 1099511627776) : Ev (fun k => impl_NatOk.f k l) (natOk l) := by
  unfold impl_NatOk.f natOk
  by_cases h1 : (l.length : Int) ≤ 64
  · simp only [if_pos h1, show l.length ≤ 64 by omega, decide_true, Bool.true_and]
    refine Ev.bind (allWithin_eq l 0 65535 hl) ?_
    by_cases h3 : l.all (fun d => decide (0 ≤ d ∧ d ≤ 65535)) = true
    · simp only [h3, if_true, Bool.true_and]
      by_cases h2 : (l.length : Int) = 0
      · obtain rfl : l = [] := List.length_eq_zero_iff.1 (by omega)
        simpa using Ev.now true
      · have e : wrap64 ((l.length : Int) - 1) = (l.length : Int) - 1 := w64 (by omega) (by omega)
        have hne : l.isEmpty = false := by cases l with | nil => simp at h2 | cons a l => rfl
        simp only [if_neg h2, e, if_pos (show 0 ≤ (l.length : Int) - 1 by omega), if_pos (show (l.length : Int) - 1 < l.length by omega), hne, rd, show ((l.length : Int) - 1).toNat = l.length - 1 by omega]
        simpa using Ev.now _
    · simp only [h3, Bool.false_and]
      simpa using Ev.now false
  · simp only [if_neg h1, show ¬ l.length ≤ 64 by omega]
    simpa using Ev.now false

theorem specCompare_loop {a b : List Int} (ha : Dg a) (hb : Dg b) (hl : a.length = b.length) (hn : a.length ≤ 1048576) : ∀ (n : Nat) (i : Int), i = (n : Int) - 1 → n ≤ a.length →
    Ev (fun k => spec_l1Compare.l0 k a b i) (cmpI (val (a.take n)) (val (b.take n))) := by
  intro n
  induction n with
  | zero =>
    intro i hi hn
    refine Ev.step (fun k => by rw [spec_l1Compare.l0]) ?_
    simp only [if_neg (show ¬ i ≥ 0 by omega)]
    simpa [cmpI, val] using Ev.now (0 : Int)
  | succ n ih =>
    intro i hi hn'
    refine Ev.step (fun k => by rw [spec_l1Compare.l0]) ?_
    have hr : i.toNat = n := by omega
    rw [cmp_take ha hb (by omega) (by omega)]
    simp only [if_pos (show i ≥ 0 by omega), if_pos (show 0 ≤ i by omega), if_pos (show i < (a.length : Int) by omega), if_pos (show i < (b.length : Int) by omega), rd, hr]
    by_cases h1 : a.getD n 0 < b.getD n 0
    · simp only [if_pos h1]; exact Ev.now _
    · simp only [if_neg h1]
      by_cases h2 : a.getD n 0 > b.getD n 0
      · simp only [if_pos h2]; exact Ev.now _
      · simp only [if_neg h2]
        rw [w64 (by omega) (by omega)]
        exact ih (i - 1) (by omega) (by omega)

theorem specCompare_eq {a b : List Int} (ha : Dg a) (hb : Dg b) (na : Nm a) (nb : Nm b) (hn : a.length ≤ 1048576) (hn' : b.length ≤ 1048576) : Ev (fun k => spec_l1Compare.f k a b) (cmpI (val a) (val b)) := by
  unfold spec_l1Compare.f
  by_cases h : a.length = b.length
  · simp only [if_pos (show (a.length : Int) = b.length by omega)]
    rw [w64 (by omega) (by omega)]
    have := specCompare_loop ha hb h hn a.length ((a.length : Int) - 1) rfl (Nat.le_refl _)
    rwa [List.take_length, h, List.take_length, ← h] at this
  · simp only [if_neg (show ¬ (a.length : Int) = b.length by omega)]
    rw [cmp_len ha hb na nb h]
    by_cases h1 : a.length < b.length
    · simp only [if_pos (show (a.length : Int) < b.length by omega), if_pos h1]; exact Ev.now _
    · simp only [if_neg (show ¬ (a.length : Int) < b.length by omega), if_neg h1]; exact Ev.now _

theorem cmpCompare_eq (x y : Int) : cmp_Compare_int.f x y = some (cmpI x y) := by
  unfold cmp_Compare_int.f cmp_isNaN_int.f cmpI
  simp only [bne_self_eq_false, Option.bind_some, Bool.false_eq_true, if_false]
  split
  · rfl
  · split <;> rfl

theorem implCompare_loop {a b : List Int} (ha : Dg a) (hb : Dg b) (hl : a.length = b.length) (hn : a.length ≤ 1048576) : ∀ (n : Nat) (i : Int), i = (n : Int) - 1 → n ≤ a.length →
    Ev (fun k => impl_natCompare.l0 k a b i) (cmpI (val (a.take n)) (val (b.take n))) := by
  intro n
  induction n with
  | zero =>
    intro i hi hn
    refine Ev.step (fun k => by rw [impl_natCompare.l0]) ?_
    simp only [if_neg (show ¬ i ≥ 0 by omega)]
    simpa [cmpI, val] using Ev.now (0 : Int)
  | succ n ih =>
    intro i hi hn'
    refine Ev.step (fun k => by rw [impl_natCompare.l0]) ?_
    have hr : i.toNat = n := by omega
    rw [cmp_take ha hb (by omega) (by omega)]
    simp only [if_pos (show i ≥ 0 by omega), if_pos (show 0 ≤ i by omega), if_pos (show i < (a.length : Int) by omega), if_pos (show i < (b.length : Int) by omega), rd, hr, cmpCompare_eq, Option.bind_some]
    by_cases h0 : a.getD n 0 = b.getD n 0
    · simp only [if_pos h0, if_neg (show ¬ a.getD n 0 < b.getD n 0 by omega), if_neg (show ¬ a.getD n 0 > b.getD n 0 by omega)]
      rw [w64 (by omega) (by omega)]
      exact ih (i - 1) (by omega) (by omega)
    · simp only [if_neg h0]
      have : (if a.getD n 0 < b.getD n 0 then (-1 : Int) else if a.getD n 0 > b.getD n 0 then 1 else cmpI (val (a.take n)) (val (b.take n))) = cmpI (a.getD n 0) (b.getD n 0) := by
        unfold cmpI
        split
        · rfl
        · split
          · rfl
          · omega
      rw [this]
      exact Ev.now _

theorem implCompare_eq {a b : List Int} (ha : Dg a) (hb : Dg b) (na : Nm a) (nb : Nm b) (hn : a.length ≤ 1048576) (hn' : b.length ≤ 1048576) : Ev (fun k => impl_natCompare.f k a b) (cmpI (val a) (val b)) := by
  unfold impl_natCompare.f
  by_cases h : a.length = b.length
  · simp only [if_pos (show (a.length : Int) = b.length by omega)]
    rw [w64 (by omega) (by omega)]
    have := implCompare_loop ha hb h hn a.length ((a.length : Int) - 1) rfl (Nat.le_refl _)
    rwa [List.take_length, h, List.take_length, ← h] at this
  · simp only [if_neg (show ¬ (a.length : Int) = b.length by omega), cmpCompare_eq, Option.bind_some]
    rw [cmp_len ha hb na nb h]
    have : cmpI (a.length : Int) (b.length : Int) = if a.length < b.length then -1 else 1 := by
      unfold cmpI
      by_cases h1 : a.length < b.length
      · rw [if_pos (by omega), if_pos h1]
      · rw [if_neg (by omega), if_pos (by omega), if_neg h1]
    rw [this]
    exact Ev.now _

theorem indexFunc_loop (ls : List (List Int)) (hl : ls.length ≤ 1048576) (hs : ∀ l ∈ ls, l.length ≤ 1099511627776) : ∀ (d : Nat) (i : Int), 0 ≤ i → (ls.length : Int) - i = d →
    ∃ r, Ev (fun k => slices_IndexFunc_int_int.l0 k ls (ls.length : Int) i) r ∧ (0 ≤ r ↔ (ls.drop i.toNat).all natOk = false) := by
  intro d
  induction d with
  | zero =>
    intro i h0 hd
    refine ⟨-1, Ev.step (fun k => by rw [slices_IndexFunc_int_int.l0]) ?_, ?_⟩
    · simp only [if_neg (show ¬ i < (ls.length : Int) by omega)]
      exact Ev.now _
    · rw [List.drop_eq_nil_of_le (by omega)]
      simp
  | succ d ih =>
    intro i h0 hd
    have hi : i.toNat < ls.length := by omega
    have hr : rd_L1 ls i = ls[i.toNat] := by
      simp [rd_L1, List.getD_eq_getElem?_getD, List.getElem?_eq_getElem hi]
    rw [List.drop_eq_getElem_cons hi, List.all_cons]
    have hk := implNatOk_eq ls[i.toNat] (hs _ (List.getElem_mem hi))
    have hc : Ev (fun k => impl_areNats_1.f k ls[i.toNat]) (!natOk ls[i.toNat]) := by
      unfold impl_areNats_1.f
      exact Ev.bind hk (Ev.now _)
    cases hb : natOk ls[i.toNat] with
    | false =>
      rw [hb] at hc
      refine ⟨i, Ev.step (fun k => by rw [slices_IndexFunc_int_int.l0]) ?_, by simp [h0]⟩
      simp only [if_pos (show i < (ls.length : Int) by omega), if_pos h0, hr]
      refine Ev.bind hc ?_
      simpa using Ev.now i
    | true =>
      rw [hb] at hc
      obtain ⟨r, hr', he⟩ := ih (i + 1) (by omega) (by omega)
      refine ⟨r, Ev.step (fun k => by rw [slices_IndexFunc_int_int.l0]) ?_, ?_⟩
      · simp only [if_pos (show i < (ls.length : Int) by omega), if_pos h0, hr]
        refine Ev.bind hc ?_
        rw [w64 (n := i + 1) (by omega) (by omega)]
        simpa using hr'
      · rw [he, show (i + 1).toNat = i.toNat + 1 by omega]
        simp

theorem areNats_eq (ls : List (List Int)) (hl : ls.length ≤ 1048576) (hs : ∀ l ∈ ls, l.length ≤ 1099511627776) : Ev (fun k => impl_areNats.f k ls) (ls.all natOk) := by
  obtain ⟨r, hr, he⟩ := indexFunc_loop ls hl hs ls.length 0 (by omega) (by omega)
  unfold impl_areNats.f slices_ContainsFunc_int_int.f slices_IndexFunc_int_int.f
  refine Ev.bind (Ev.bind hr (Ev.now _)) ?_
  have : (!decide (r ≥ 0)) = ls.all natOk := by
    rw [Int.toNat_zero, List.drop_zero] at he
    cases hb : ls.all natOk with
    | true => rw [hb] at he; simp at he; simp; omega
    | false => rw [hb] at he; simp at he; simp; omega
  rw [this]
  exact Ev.now _

theorem ok2 {a b : List Int} (k : ¬ (natOk a = true ∧ natOk b = true)) : [a, b].all natOk = false := by
  simp only [List.all_cons, List.all_nil, Bool.and_true]
  cases ka : natOk a with
  | false => rfl
  | true =>
    cases kb : natOk b with
    | true => exact absurd ⟨ka, kb⟩ k
    | false => rfl

theorem arOf {a b : List Int} (h1 : a.length ≤ 1048576) (h2 : b.length ≤ 1048576) : Ev (fun k => impl_areNats.f k [a, b]) ([a, b].all natOk) :=
  areNats_eq [a, b] (by simp) (by intro l hl; simp at hl; rcases hl with rfl | rfl <;> omega)

theorem trimmed_loop (l : List Int) (hl : l.length ≤ 1099511627776) : ∀ (n : Nat), n ≤ l.length → Ev (fun k => impl_trimmed.l0 k l (n : Int)) (trim (l.take n)) := by
  intro n
  induction n with
  | zero =>
    intro _
    refine Ev.step (fun k => by rw [impl_trimmed.l0]) ?_
    simp only [if_neg (show ¬ ((0 : Nat) : Int) > 0 by omega), if_pos (show 0 ≤ ((0 : Nat) : Int) by omega), if_pos (show ((0 : Nat) : Int) ≤ (l.length : Int) by omega)]
    simpa [trim] using Ev.now ([] : List Int)
  | succ n ih =>
    intro hn
    refine Ev.step (fun k => by rw [impl_trimmed.l0]) ?_
    rw [take_snoc (show n < l.length by omega)]
    simp only [if_pos (show ((n + 1 : Nat) : Int) > 0 by omega), wpred (show n ≤ 1099511627776 by omega), if_pos (show 0 ≤ (n : Int) by omega), if_pos (show (n : Int) < (l.length : Int) by omega), rd, Int.toNat_natCast]
    by_cases h : l.getD n 0 = 0
    · simp only [h, if_true, trim_snoc_zero]
      exact ih (by omega)
    · simp only [if_neg h, if_pos (show 0 ≤ ((n + 1 : Nat) : Int) by omega), if_pos (show ((n + 1 : Nat) : Int) ≤ (l.length : Int) by omega), trim_snoc _ h, take_snoc (show n < l.length by omega)]
      exact Ev.now _

theorem trimmed_eq (l : List Int) (hl : l.length ≤ 1099511627776) : Ev (fun k => impl_trimmed.f k l) (trim l) := by
  have := trimmed_loop l hl l.length (Nat.le_refl _)
  rw [List.take_length] at this
  exact this

theorem norm_loop (l : List Int) (hl : l.length ≤ 1099511627776) : ∀ (n : Nat), n ≤ l.length → Ev (fun k => spec_l1Norm.l0 k l (n : Int)) (trim (l.take n)) := by
  intro n
  induction n with
  | zero =>
    intro _
    refine Ev.step (fun k => by rw [spec_l1Norm.l0]) ?_
    simp only [if_neg (show ¬ ((0 : Nat) : Int) > 0 by omega), if_pos (show 0 ≤ ((0 : Nat) : Int) by omega), if_pos (show ((0 : Nat) : Int) ≤ (l.length : Int) by omega)]
    simpa [trim] using Ev.now ([] : List Int)
  | succ n ih =>
    intro hn
    refine Ev.step (fun k => by rw [spec_l1Norm.l0]) ?_
    rw [take_snoc (show n < l.length by omega)]
    simp only [if_pos (show ((n + 1 : Nat) : Int) > 0 by omega), wpred (show n ≤ 1099511627776 by omega), if_pos (show 0 ≤ (n : Int) by omega), if_pos (show (n : Int) < (l.length : Int) by omega), rd, Int.toNat_natCast]
    by_cases h : l.getD n 0 = 0
    · simp only [h, if_true, trim_snoc_zero]
      exact ih (by omega)
    · simp only [if_neg h, if_pos (show 0 ≤ ((n + 1 : Nat) : Int) by omega), if_pos (show ((n + 1 : Nat) : Int) ≤ (l.length : Int) by omega), trim_snoc _ h, Option.bind_some, List.nil_append, List.length_nil]
      rw [if_pos (by rw [List.length_take]; omega), take_snoc (show n < l.length by omega)]
      exact Ev.now _

theorem norm_eq (l : List Int) (hl : l.length ≤ 1099511627776) : Ev (fun k => spec_l1Norm.f k l) (trim l) := by
  have := norm_loop l hl l.length (Nat.le_refl _)
  rw [List.take_length] at this
  exact this

theorem digit_eq (l : List Int) {i : Int} (h : 0 ≤ i) : spec_l1Digit.f l i = some (l.getD i.toNat 0) := by
  unfold spec_l1Digit.f
  by_cases h1 : i < (l.length : Int)
  · simp only [if_pos h1, if_pos h, rd]
  · simp only [if_neg h1]
    rw [List.getD_eq_getElem?_getD, List.getElem?_eq_none (by omega)]
    rfl

def tab8 : ByteArray := ⟨#[0, 1, 2, 2, 3, 3, 3, 3, 4, 4, 4, 4, 4, 4, 4, 4, 5, 5, 5, 5, 5, 5, 5, 5, 5, 5, 5, 5, 5, 5, 5, 5, 6, 6, 6, 6, 6, 6, 6, 6, 6, 6, 6, 6, 6, 6, 6, 6, 6, 6, 6, 6, 6, 6, 6, 6, 6, 6, 6, 6, 6, 6, 6, 6, 7, 7, 7, 7, 7, 7, 7, 7, 7, 7, 7, 7, 7, 7, 7, 7, 7, 7, 7, 7, 7, 7, 7, 7, 7, 7, 7, 7, 7, 7, 7, 7, 7, 7, 7, 7, 7, 7, 7, 7, 7, 7, 7, 7, 7, 7, 7, 7, 7, 7, 7, 7, 7, 7, 7, 7, 7, 7, 7, 7, 7, 7, 7, 7, 8, 8, 8, 8, 8, 8, 8, 8, 8, 8, 8, 8, 8, 8, 8, 8, 8, 8, 8, 8, 8, 8, 8, 8, 8, 8, 8, 8, 8, 8, 8, 8, 8, 8, 8, 8, 8, 8, 8, 8, 8, 8, 8, 8, 8, 8, 8, 8, 8, 8, 8, 8, 8, 8, 8, 8, 8, 8, 8, 8, 8, 8, 8, 8, 8, 8, 8, 8, 8, 8, 8, 8, 8, 8, 8, 8, 8, 8, 8, 8, 8, 8, 8, 8, 8, 8, 8, 8, 8, 8, 8, 8, 8, 8, 8, 8, 8, 8, 8, 8, 8, 8, 8, 8, 8, 8, 8, 8, 8, 8, 8, 8, 8, 8, 8, 8, 8, 8, 8, 8, 8, 8, 8, 8, 8, 8, 8, 8]⟩

theorem tab8_all : ∀ n : Fin 256, bt tab8 ((n.val : Nat) : Int) = ((bl n.val : Nat) : Int) := by decide +kernel

set_option maxRecDepth 100000 in
theorem tab8_eq {x : Int} (h0 : 0 ≤ x) (h1 : x < 256) : bt (⟨#[0, 1, 2, 2, 3, 3, 3, 3, 4, 4, 4, 4, 4, 4, 4, 4, 5, 5, 5, 5, 5, 5, 5, 5, 5, 5, 5, 5, 5, 5, 5, 5, 6, 6, 6, 6, 6, 6, 6, 6, 6, 6, 6, 6, 6, 6, 6, 6, 6, 6, 6, 6, 6, 6, 6, 6, 6, 6, 6, 6, 6, 6, 6, 6, 7, 7, 7, 7, 7, 7, 7, 7, 7, 7, 7, 7, 7, 7, 7, 7, 7, 7, 7, 7, 7, 7, 7, 7, 7, 7, 7, 7, 7, 7, 7, 7, 7, 7, 7, 7, 7, 7, 7, 7, 7, 7, 7, 7, 7, 7, 7, 7, 7, 7, 7, 7, 7, 7, 7, 7, 7, 7, 7, 7, 7, 7, 7, 7, 8, 8, 8, 8, 8, 8, 8, 8, 8, 8, 8, 8, 8, 8, 8, 8, 8, 8, 8, 8, 8, 8, 8, 8, 8, 8, 8, 8, 8, 8, 8, 8, 8, 8, 8, 8, 8, 8, 8, 8, 8, 8, 8, 8, 8, 8, 8, 8, 8, 8, 8, 8, 8, 8, 8, 8, 8, 8, 8, 8, 8, 8, 8, 8, 8, 8, 8, 8, 8, 8, 8, 8, 8, 8, 8, 8, 8, 8, 8, 8, 8, 8, 8, 8, 8, 8, 8, 8, 8, 8, 8, 8, 8, 8, 8, 8, 8, 8, 8, 8, 8, 8, 8, 8, 8, 8, 8, 8, 8, 8, 8, 8, 8, 8, 8, 8, 8, 8, 8, 8, 8, 8, 8, 8, 8, 8, 8, 8]⟩ : ByteArray) x = ((bl x.toNat : Nat) : Int) := by
  have := tab8_all ⟨x.toNat, by omega⟩
  unfold tab8 at this
  rw [show (((⟨x.toNat, by omega⟩ : Fin 256).val : Nat) : Int) = x from by simp; omega] at this
  exact this

theorem blI {x : Int} (k : Nat) (h : (2 : Int) ^ k ≤ x) : ((bl x.toNat : Nat) : Int) = ((bl (x / 2 ^ k).toNat : Nat) : Int) + k := by
  have h1 := bl_shift k x.toNat (by have := two_pow_int k; omega)
  have h2 : (x / 2 ^ k).toNat = x.toNat / 2 ^ k := by
    have h3 : 0 < (2 : Int) ^ k := Int.pow_pos (by omega)
    obtain ⟨n, rfl⟩ : ∃ n : Nat, x = n := ⟨x.toNat, by omega⟩
    rw [← two_pow_int, Int.toNat_natCast, ← Int.natCast_ediv, Int.toNat_natCast]
  rw [h2, h1]
  omega

set_option maxRecDepth 100000 in
theorem len64_j0 {x c : Int} (h0 : 0 ≤ x) (h1 : x < 4294967296) (c0 : 0 ≤ c) (c1 : c ≤ 1000) : Ev (fun k => bits_Len64.j0 k x c) (c + ((bl x.toNat : Nat) : Int)) := by
  refine Ev.step (fun k => by rw [bits_Len64.j0]) ?_
  have blb : ∀ y : Int, 0 ≤ y → y < 256 → ((bl y.toNat : Nat) : Int) ≤ 8 := by
    intro y y0 y1
    have := bl_le (n := y.toNat) (k := 8) (by omega)
    omega
  by_cases p1 : x ≥ 65536
  · simp only [if_pos p1]
    have e1 := blI (x := x) 16 (by omega)
    by_cases p2 : x / 65536 ≥ 256
    · have e2 := blI (x := x / 65536) 8 (by omega)
      have r0 : 0 ≤ x / 65536 / 256 := by omega
      have r1 : x / 65536 / 256 < 256 := by omega
      have r2 : x / 65536 / 256 % 256 = x / 65536 / 256 := by omega
      have b := blb (x / 65536 / 256) (by omega) (by omega)
      simp only [if_pos p2, r2, if_pos r0, if_pos r1, tab8_eq r0 r1]
      rw [w64 (n := ((bl (x / 65536 / 256).toNat : Nat) : Int)) (by omega) (by omega), w64 (n := c + 16) (by omega) (by omega), w64 (n := c + 16 + 8) (by omega) (by omega), w64 (by omega) (by omega),
        show c + 16 + 8 + ((bl (x / 65536 / 256).toNat : Nat) : Int) = c + ((bl x.toNat : Nat) : Int) by simp only [show ((2 : Int) ^ 16) = 65536 by decide, show ((2 : Int) ^ 8) = 256 by decide] at e1 e2; omega]
      exact Ev.now _
    · have r0 : 0 ≤ x / 65536 := by omega
      have r1 : x / 65536 < 256 := by omega
      have r2 : x / 65536 % 256 = x / 65536 := by omega
      have b := blb (x / 65536) (by omega) (by omega)
      simp only [if_neg p2, r2, if_pos r0, if_pos r1, tab8_eq r0 r1]
      rw [w64 (n := ((bl (x / 65536).toNat : Nat) : Int)) (by omega) (by omega), w64 (n := c + 16) (by omega) (by omega), w64 (by omega) (by omega),
        show c + 16 + ((bl (x / 65536).toNat : Nat) : Int) = c + ((bl x.toNat : Nat) : Int) by simp only [show ((2 : Int) ^ 16) = 65536 by decide] at e1; omega]
      exact Ev.now _
  · simp only [if_neg p1]
    by_cases p2 : x ≥ 256
    · have e2 := blI (x := x) 8 (by omega)
      have r0 : 0 ≤ x / 256 := by omega
      have r1 : x / 256 < 256 := by omega
      have r2 : x / 256 % 256 = x / 256 := by omega
      have b := blb (x / 256) (by omega) (by omega)
      simp only [if_pos p2, r2, if_pos r0, if_pos r1, tab8_eq r0 r1]
      rw [w64 (n := ((bl (x / 256).toNat : Nat) : Int)) (by omega) (by omega), w64 (n := c + 8) (by omega) (by omega), w64 (by omega) (by omega),
        show c + 8 + ((bl (x / 256).toNat : Nat) : Int) = c + ((bl x.toNat : Nat) : Int) by simp only [show ((2 : Int) ^ 8) = 256 by decide] at e2; omega]
      exact Ev.now _
    · have r0 : 0 ≤ x := by omega
      have r1 : x < 256 := by omega
      have r2 : x % 256 = x := by omega
      have b := blb x (by omega) (by omega)
      simp only [if_neg p2, r2, if_pos r0, if_pos r1, tab8_eq r0 r1]
      rw [w64 (n := ((bl x.toNat : Nat) : Int)) (by omega) (by omega), w64 (by omega) (by omega)]
      exact Ev.now _

theorem len_eq {x : Int} (h0 : 0 ≤ x) (h1 : x < 18446744073709551616) : Ev (fun k => bits_Len.f k x) ((bl x.toNat : Nat) : Int) := by
  unfold bits_Len.f bits_Len64.f
  by_cases p : x ≥ 4294967296
  · simp only [if_pos p]
    have e := blI (x := x) 32 (by omega)
    have := len64_j0 (x := x / 4294967296) (c := 32) (by omega) (by omega) (by omega) (by omega)
    rw [show 32 + ((bl (x / 4294967296).toNat : Nat) : Int) = ((bl x.toNat : Nat) : Int) by simp only [show ((2 : Int) ^ 32) = 4294967296 by decide] at e; omega] at this
    exact Ev.bind this (Ev.now _)
  · simp only [if_neg p]
    have := len64_j0 (x := x) (c := 0) (by omega) (by omega) (by omega) (by omega)
    rw [Int.zero_add] at this
    exact Ev.bind this (Ev.now _)

theorem u64w {x : Int} (h0 : 0 ≤ x) (h1 : x < 18446744073709551616) : IntKind.u64.wrap x = x := by
  rw [show IntKind.u64.wrap x = x % 18446744073709551616 from by simp [IntKind.wrap, IntKind.bits, IntKind.signed]]
  omega

theorem implNatOf_loop : ∀ (m : Nat) (a : Int) (x : List Int), a < 65536 ^ m → 0 ≤ a → a ≤ 9223372036854775807 → x.length + m ≤ 100 → Dg x → (a = 0 → Nm x) →
    ∃ r, r.length ≤ x.length + m ∧ Dg r ∧ Nm r ∧ val r = val x + 65536 ^ x.length * a ∧ Ev (fun k => impl_natOf.l0 k a x) r := by
  intro m
  induction m with
  | zero =>
    intro a x h1 h0 h2 h3 hd hn
    have : a = 0 := by simp at h1; omega
    subst this
    refine ⟨x, by omega, hd, hn rfl, by simp, Ev.step (fun k => by rw [impl_natOf.l0]) ?_⟩
    simp only [if_neg (show ¬ (0 : Int) > 0 by omega)]
    exact Ev.now _
  | succ m ih =>
    intro a x h1 h0 h2 h3 hd hn
    by_cases hp : a > 0
    · have e1 : a.tdiv 65536 = a / 65536 := Int.tdiv_eq_ediv_of_nonneg (by omega)
      have e2 : a.tmod 65536 = a % 65536 := Int.tmod_eq_emod_of_nonneg (by omega)
      rw [Int.pow_succ] at h1
      obtain ⟨r, hr, d, n, v, e⟩ := ih (a / 65536) (x ++ [a % 65536]) (by omega) (by omega) (by omega) (by simp; omega) (hd.snoc (by omega) (by omega)) (fun k => by
        unfold Nm
        simp
        omega)
      refine ⟨r, by simp at hr; omega, d, n, ?_, Ev.step (fun k => by rw [impl_natOf.l0]) ?_⟩
      · rw [v, val_snoc, List.length_append, List.length_singleton, Int.pow_succ]
        have : a = a % 65536 + 65536 * (a / 65536) := by omega
        generalize a % 65536 = u at *
        generalize a / 65536 = w at *
        generalize (65536 : Int) ^ x.length = P at *
        subst this
        grind
      · simp only [if_pos hp, if_pos (show x.length < 17592186044416 by omega), e1, e2]
        rw [w64 (by omega) (by omega)]
        exact e
    · have : a = 0 := by omega
      subst this
      refine ⟨x, by omega, hd, hn rfl, by simp, Ev.step (fun k => by rw [impl_natOf.l0]) ?_⟩
      simp only [if_neg (show ¬ (0 : Int) > 0 by omega)]
      exact Ev.now _

theorem implNatOf_eq {a : Int} (h0 : 0 ≤ a) (h1 : a ≤ 9223372036854775807) : ∃ r, r.length ≤ 4 ∧ Dg r ∧ Nm r ∧ val r = a ∧ Ev (fun k => impl_natOf.f k a) r := by
  obtain ⟨r, hr, d, n, v, e⟩ := implNatOf_loop 4 a [] (by omega) h0 h1 (by simp) Dg.nil (fun _ => by simp [Nm])
  exact ⟨r, by simpa using hr, d, n, by simpa [val] using v, e⟩

theorem and16 (x : Int) : Go.bits .and .i64 x 65535 = x % 65536 := by
  unfold Go.bits
  simp only [BitVec.toNat_and]
  have h : (BitVec.ofInt IntKind.i64.bits 65535).toNat = 2 ^ 16 - 1 := by decide
  rw [h, Nat.and_two_pow_sub_one_eq_mod, BitVec.toNat_ofInt, IntKind.wrap_i64, show IntKind.i64.bits = 64 from rfl]
  omega

theorem byDigit_loop {a : List Int} (ha : Dg a) (hl : a.length ≤ 1048576) {d : Int} (d1 : d ≤ 65536) : ∀ (n : Nat) (o : List Int) (left : Int), n ≤ a.length → ByIn a o d left n →
    ∃ o' left', ByIn a o' d left' 0 ∧ Ev (fun k => impl_byDigit.l0 k a d o left ((n : Int) - 1)) (trim o', left') := by
  intro n
  induction n with
  | zero =>
    intro o left _ h
    refine ⟨o, left, h, Ev.step (fun k => by rw [impl_byDigit.l0]) ?_⟩
    simp only [if_neg (show ¬ ((0 : Nat) : Int) - 1 ≥ 0 by omega)]
    have hlen := h.len
    exact Ev.bind (trimmed_eq o (by omega)) (Ev.now _)
  | succ n ih =>
    intro o left hn h
    have l0 := h.l0
    have l1 := h.l1
    have b := ha.getD n
    obtain ⟨s1, s2, s3, s4, s5⟩ := by_step l0 l1 b.1 b.2
    obtain ⟨o', left', hi, he⟩ := ih _ _ (by omega) (h.step ha (by omega))
    have hlen := h.len
    have e0 : ((n + 1 : Nat) : Int) - 1 = (n : Int) := by omega
    have w1 : wrap64 (left * 65536) = left * 65536 := w64 (by omega) (by omega)
    have w2 : wrap64 (left * 65536 + a.getD n 0) = left * 65536 + a.getD n 0 := w64 (by omega) (by omega)
    have w3 : Int.tdiv (left * 65536 + a.getD n 0) d = (left * 65536 + a.getD n 0) / d := Int.tdiv_eq_ediv_of_nonneg (by clear w1 w2; omega)
    have w4 : Int.tmod (left * 65536 + a.getD n 0) d = (left * 65536 + a.getD n 0) % d := Int.tmod_eq_emod_of_nonneg (by clear w1 w2; omega)
    have w5 : wrap64 ((left * 65536 + a.getD n 0) / d) = (left * 65536 + a.getD n 0) / d := w64 (by clear w1 w2 w3 w4; omega) (by clear w1 w2 w3 w4; omega)
    have w6 : wrap64 ((n : Int) - 1) = (n : Int) - 1 := w64 (by clear w1 w2 w3 w4 w5; omega) (by clear w1 w2 w3 w4 w5; omega)
    have q0 : ¬ d = 0 := by clear w1 w2 w3 w4 w5 w6; omega
    have q1 : (n : Int) < (a.length : Int) := by clear w1 w2 w3 w4 w5 w6; omega
    have q2 : (n : Int) < (o.length : Int) := by clear w1 w2 w3 w4 w5 w6; omega
    have q3 : (n : Int) ≥ 0 := by clear w1 w2 w3 w4 w5 w6; omega
    refine ⟨o', left', hi, Ev.step (fun k => by rw [impl_byDigit.l0]) ?_⟩
    simp only [e0, if_pos q3, if_pos q1, if_neg q0, if_pos q2, rd, Int.toNat_natCast, w1, w2, w3, w4, w5, w6]
    exact he

theorem byDigit_eq {a : List Int} (ha : Dg a) (hl : a.length ≤ 1048576) {d : Int} (d0 : 0 < d) (d1 : d ≤ 65536) :
    ∃ q left, val q * d + left = val a ∧ Dg q ∧ Nm q ∧ 0 ≤ left ∧ left < d ∧ q.length ≤ a.length ∧ Ev (fun k => impl_byDigit.f k a d) (q, left) := by
  obtain ⟨o, left, h, e⟩ := byDigit_loop ha hl d1 a.length _ 0 (Nat.le_refl _) (ByIn.start a d0)
  have := trim_len o
  have hlen := h.len
  have heq := h.eq
  rw [List.drop_zero, List.drop_zero] at heq
  refine ⟨trim o, left, by rw [trim_val]; omega, trim_dg h.dg, trim_nm o, h.l0, h.l1, by omega, ?_⟩
  unfold impl_byDigit.f
  have q0 : 0 ≤ (a.length : Int) := by omega
  have q1 : a.length ≤ 35184372088832 := by omega
  have w : wrap64 ((a.length : Int) - 1) = (a.length : Int) - 1 := w64 (by omega) (by omega)
  simp only [if_pos q0, Int.toNat_natCast, if_pos q1, w]
  exact e

theorem shl_eq {x : Int} (s : Nat) (hs : s ≤ 15) (x0 : 0 ≤ x) (x1 : x < 65536) : shl .i64 x (s : Int) = x * 2 ^ s := by
  unfold shl
  rw [Int.toNat_natCast, Nat.min_eq_left (by show s ≤ 64; omega), i64_w]
  have h1 : (1 : Int) ≤ 2 ^ s := by have h0 : (0 : Int) < 2 ^ s := Int.pow_pos (by omega); omega
  have h2 : (2 : Int) ^ s ≤ 32768 := by
    have : (2 : Nat) ^ s ≤ 2 ^ 15 := Nat.pow_le_pow_right (by omega) hs
    have h3 := two_pow_int s
    omega
  have h3 : 0 ≤ x * 2 ^ s := Int.mul_nonneg x0 (by omega)
  have h4 : x * 2 ^ s ≤ 65535 * 32768 := Int.mul_le_mul (by omega) h2 (by omega) (by omega)
  exact w64 (by omega) (by omega)

theorem pow15 {s : Nat} (hs : s ≤ 15) : (1 : Int) ≤ 2 ^ s ∧ (2 : Int) ^ s ≤ 32768 := by
  have h1 : (0 : Int) < 2 ^ s := Int.pow_pos (by omega)
  have : (2 : Nat) ^ s ≤ 2 ^ 15 := Nat.pow_le_pow_right (by omega) hs
  have h3 := two_pow_int s
  omega

theorem shifted_loop {a : List Int} (ha : Dg a) (hl : a.length ≤ 1048576) {s : Nat} (hs : s ≤ 15) : ∀ (d i : Nat) (o : List Int) (c : Int), a.length = i + d → ShIn a o (2 ^ s) c i →
    ∃ r, val r = val a * 2 ^ s ∧ Dg r ∧ r.length = a.length + 1 ∧ Ev (fun k => impl_shifted.l0 k (s : Int) o c a (a.length : Int) (i : Int)) r := by
  intro d
  have hp := pow15 hs
  induction d with
  | zero =>
    intro i o c hi h
    obtain rfl : i = a.length := by omega
    obtain ⟨len, dg, c0, c1, eq⟩ := h
    rw [List.take_length] at eq
    refine ⟨o ++ [c], by rw [val_snoc, len]; exact eq, dg.snoc c0 (by omega), by simp [len], Ev.step (fun k => by rw [impl_shifted.l0]) ?_⟩
    simp only [if_neg (show ¬ (a.length : Int) < (a.length : Int) by omega), if_pos (show o.length < 17592186044416 by omega)]
    exact Ev.now _
  | succ d ih =>
    intro i o c hi h
    have hn := h.step ha hp.2
    obtain ⟨r, v, g, l, e⟩ := ih (i + 1) _ _ (by omega) hn
    have b := ha.getD i
    have c0 := h.c0
    have c1 := h.c1
    have len := h.len
    obtain ⟨b1, b2, b3, b4⟩ := sh_bound c0 c1 b.1 b.2 hp.2
    refine ⟨r, v, g, l, Ev.step (fun k => by rw [impl_shifted.l0]) ?_⟩
    have q1 : (i : Int) < (a.length : Int) := by omega
    have q2 : 0 ≤ (i : Int) := by omega
    have q3 : 0 ≤ (s : Int) := by omega
    have q4 : o.length < 17592186044416 := by omega
    have w1 : shl .i64 (a.getD i 0) (s : Int) = a.getD i 0 * 2 ^ s := shl_eq s hs b.1 b.2
    have w2 : wrap64 (c + a.getD i 0 * 2 ^ s) = c + a.getD i 0 * 2 ^ s := w64 (by omega) (by omega)
    have w3 : Int.tmod (c + a.getD i 0 * 2 ^ s) 65536 = (c + a.getD i 0 * 2 ^ s) % 65536 := Int.tmod_eq_emod_of_nonneg b3
    have w4 : wrap64 (Int.tdiv (c + a.getD i 0 * 2 ^ s) 65536) = (c + a.getD i 0 * 2 ^ s) / 65536 := by
      rw [Int.tdiv_eq_ediv_of_nonneg b3, w64 (by clear w2; omega) (by clear w2; omega)]
    have w5 : wrap64 ((i : Int) + 1) = ((i + 1 : Nat) : Int) := wsucc (by clear w2 w4; omega)
    simp only [if_pos q1, if_pos q2, if_pos q3, if_pos q4, rd, Int.toNat_natCast, w1, w2, w3, w4, w5]
    exact e

theorem shifted_eq {a : List Int} (ha : Dg a) (hl : a.length ≤ 1048576) {s : Nat} (hs : s ≤ 15) :
    ∃ r, val r = val a * 2 ^ s ∧ Dg r ∧ r.length = a.length + 1 ∧ Ev (fun k => impl_shifted.f k a (s : Int)) r :=
  shifted_loop ha hl hs a.length 0 [] 0 (by omega) (ShIn.start a (by have := pow15 hs; omega))

theorem takeAway_loop {p d : List Int} (hd : Dg d) (hl : p.length ≤ 1048576) {q : Int} (q0 : 0 ≤ q) (q1 : q ≤ 65535) : ∀ (m i : Nat) (x : List Int) (c : Int), p.length = i + m → TakeIn p d x q c i →
    ∃ x' c', TakeIn p d x' q c' p.length ∧ Ev (fun k => impl_takeAway.l0 k x d q c (p.length : Int) (i : Int)) (decide (c' < 0), x') := by
  intro m
  induction m with
  | zero =>
    intro i x c hi h
    obtain rfl : i = p.length := by omega
    refine ⟨x, c, h, Ev.step (fun k => by rw [impl_takeAway.l0]) ?_⟩
    simp only [if_neg (show ¬ (p.length : Int) < (p.length : Int) by omega)]
    exact Ev.now _
  | succ m ih =>
    intro i x c hi h
    have hn := h.step hd q0 q1 (show i < p.length by omega)
    obtain ⟨x', c', ht, e⟩ := ih (i + 1) _ _ (by omega) hn
    have b := h.dg.getD i
    have b' := hd.getD i
    have c0 := h.c0
    have c1 := h.c1
    have len := h.len
    obtain ⟨t1, t2, t3, t4⟩ := take_bound c0 c1 b.1 b.2 b'.1 b'.2 q0 q1
    refine ⟨x', c', ht, Ev.step (fun k => by rw [impl_takeAway.l0]) ?_⟩
    have g1 : (i : Int) < (p.length : Int) := by omega
    have g2 : 0 ≤ (i : Int) := by omega
    have g3 : (i : Int) < (x.length : Int) := by omega
    have w1 : wrap64 (x.getD i 0 + c) = x.getD i 0 + c := w64 (by omega) (by omega)
    have w2 : wrap64 (q * d.getD i 0) = q * d.getD i 0 := w64 (by clear w1; omega) (by clear w1; omega)
    have w3 : wrap64 (x.getD i 0 + c - q * d.getD i 0) = x.getD i 0 + c - q * d.getD i 0 := w64 (by clear w1 w2; omega) (by clear w1 w2; omega)
    have w4 : wrap64 ((i : Int) + 1) = ((i + 1 : Nat) : Int) := wsucc (by clear w1 w2 w3; omega)
    simp only [if_pos g1, if_pos g2, if_pos g3, rd, Int.toNat_natCast, w4]
    by_cases hd' : (i : Int) < (d.length : Int)
    · simp only [if_pos hd', w1, w2, w3, and16]
      exact e
    · have z : d.getD i 0 = 0 := by
        rw [List.getD_eq_getElem?_getD, List.getElem?_eq_none (by clear w1 w2 w3 w4; omega)]
        rfl
      rw [z, Int.mul_zero, Int.sub_zero] at e
      simp only [if_neg hd', w1, and16]
      exact e

theorem takeAway_eq {p d : List Int} (hp : Dg p) (hd : Dg d) (hl : p.length ≤ 1048576) {q : Int} (q0 : 0 ≤ q) (q1 : q ≤ 65535) :
    ∃ x c, TakeIn p d x q c p.length ∧ Ev (fun k => impl_takeAway.f k p d q) (decide (c < 0), x) :=
  takeAway_loop hd hl q0 q1 p.length 0 p 0 (by omega) (TakeIn.start hp q)

theorem giveBack_loop {p d : List Int} (hd : Dg d) (hl : p.length ≤ 1048576) : ∀ (m i : Nat) (x : List Int) (c : Int), p.length = i + m → GiveIn p d x c i →
    ∃ x' c', GiveIn p d x' c' p.length ∧ Ev (fun k => impl_giveBack.l0 k x d c (p.length : Int) (i : Int)) x' := by
  intro m
  induction m with
  | zero =>
    intro i x c hi h
    obtain rfl : i = p.length := by omega
    refine ⟨x, c, h, Ev.step (fun k => by rw [impl_giveBack.l0]) ?_⟩
    simp only [if_neg (show ¬ (p.length : Int) < (p.length : Int) by omega)]
    exact Ev.now _
  | succ m ih =>
    intro i x c hi h
    have hn := h.step hd (show i < p.length by omega)
    obtain ⟨x', c', ht, e⟩ := ih (i + 1) _ _ (by omega) hn
    have b := h.dg.getD i
    have b' := hd.getD i
    have c0 := h.c0
    have c1 := h.c1
    have len := h.len
    refine ⟨x', c', ht, Ev.step (fun k => by rw [impl_giveBack.l0]) ?_⟩
    have g1 : (i : Int) < (p.length : Int) := by omega
    have g2 : 0 ≤ (i : Int) := by omega
    have g3 : (i : Int) < (x.length : Int) := by omega
    have w1 : wrap64 (c + x.getD i 0) = c + x.getD i 0 := w64 (by omega) (by omega)
    have w3 : wrap64 (c + x.getD i 0 + d.getD i 0) = c + x.getD i 0 + d.getD i 0 := w64 (by clear w1; omega) (by clear w1; omega)
    have w4 : wrap64 ((i : Int) + 1) = ((i + 1 : Nat) : Int) := wsucc (by clear w1 w3; omega)
    simp only [if_pos g1, if_pos g2, if_pos g3, rd, Int.toNat_natCast, w4]
    by_cases hd' : (i : Int) < (d.length : Int)
    · simp only [if_pos hd', w1, w3, and16]
      exact e
    · have z : d.getD i 0 = 0 := by
        rw [List.getD_eq_getElem?_getD, List.getElem?_eq_none (by clear w1 w3 w4; omega)]
        rfl
      rw [z, Int.add_zero] at e
      simp only [if_neg hd', w1, and16]
      exact e

theorem giveBack_eq {p d : List Int} (hp : Dg p) (hd : Dg d) (hl : p.length ≤ 1048576) :
    ∃ x c, GiveIn p d x c p.length ∧ Ev (fun k => impl_giveBack.f k p d) x :=
  giveBack_loop hd hl p.length 0 p 0 (by omega) (GiveIn.start hp)

/-- THE DIGIT. From a guess that is not too small the loop comes to the true digit, and leaves what is left. -/
theorem digit_loop {P D r o : List Int} {n j : Nat} {s : Int} (h : Guess P D n) (hl : P.length ≤ 1048576) (hj : j < o.length) (hjl : o.length ≤ 1048576) : ∀ (m : Nat) (q : Int), q.toNat ≤ m → 0 ≤ q → q ≤ 65535 →
    q * D.getD (n + 1) 0 ≤ P.getD (n + 2) 0 * 65536 + P.getD (n + 1) 0 → (∀ t, 0 ≤ t → t * val D ≤ val P → t ≤ q) →
    ∃ g x, 0 ≤ g ∧ g < 65536 ∧ Dg x ∧ x.length = P.length ∧ val x = val P - g * val D ∧ val x < val D ∧
      ∀ R, Ev (fun k => impl_natDiv.l0 k ((n + 2 : Nat) : Int) s (spl r j x) D (o.set j g) ((j : Int) - 1)) R →
        Ev (fun k => impl_natDiv.l1 k ((n + 2 : Nat) : Int) s r P D o (j : Int) (P.getD (n + 2) 0 * 65536 + P.getD (n + 1) 0) q) R := by
  intro m
  have hpl := h.plen
  have hdl := h.dlen
  have g1 : wrap64 (((n + 2 : Nat) : Int) - 2) = (n : Int) := by rw [w64 (by omega) (by omega)]; omega
  have g2 : wrap64 (((n + 2 : Nat) : Int) - 1) = ((n + 1 : Nat) : Int) := by rw [w64 (by omega) (by omega)]; omega
  have g3 : 0 ≤ (n : Int) := by clear g1 g2; omega
  have g4 : (n : Int) < (D.length : Int) := by clear g1 g2; omega
  have g5 : 0 ≤ ((n + 1 : Nat) : Int) := by clear g1 g2; omega
  have g6 : ((n + 1 : Nat) : Int) < (D.length : Int) := by clear g1 g2; omega
  have g7 : (n : Int) < (P.length : Int) := by clear g1 g2; omega
  have g8 : wrap64 ((j : Int) - 1) = (j : Int) - 1 := w64 (by clear g1 g2; omega) (by clear g1 g2; omega)
  have g9 : 0 ≤ (j : Int) := by clear g1 g2 g8; omega
  have g10 : (j : Int) < (o.length : Int) := by clear g1 g2 g8; omega
  have b1 := h.dd.getD n
  have b2 := h.dd.getD (n + 1)
  have b3 := h.pd.getD n
  have b4 := h.pd.getD (n + 1)
  have b5 := h.pd.getD (n + 2)
  have tests : ∀ q : Int, 0 ≤ q → q ≤ 65535 → q * D.getD (n + 1) 0 ≤ P.getD (n + 2) 0 * 65536 + P.getD (n + 1) 0 →
      (wrap64 (q * D.getD n 0) > wrap64 (wrap64 (wrap64 (P.getD (n + 2) 0 * 65536 + P.getD (n + 1) 0 - wrap64 (q * D.getD (n + 1) 0)) * 65536) + P.getD n 0) ↔ over P D n q) := by
    clear g1 g2 g8
    intro q q0 q1 q2
    have m1 : 0 ≤ q * D.getD n 0 := Int.mul_nonneg q0 b1.1
    have m2 : q * D.getD n 0 ≤ 65535 * 65535 := Int.mul_le_mul (by omega) (by omega) b1.1 (by omega)
    have m3 : 0 ≤ q * D.getD (n + 1) 0 := Int.mul_nonneg q0 b2.1
    unfold over
    generalize q * D.getD n 0 = u at *
    generalize q * D.getD (n + 1) 0 = v at *
    rw [w64 (n := u) (by omega) (by omega), w64 (n := v) (by omega) (by omega), w64 (n := _ - v) (by omega) (by omega), w64 (n := _ * 65536) (by omega) (by omega), w64 (n := _ + P.getD n 0) (by omega) (by omega)]
  induction m with
  | zero =>
    intro q qm q0 q1 q2 q3
    obtain rfl : q = 0 := by clear g1 g2 g8; omega
    have ho : ¬ over P D n 0 := h.low (by clear g1 g2 g8; omega) (by have := val_nonneg h.pd; clear g1 g2 g8; omega)
    obtain ⟨x, c, ht, e⟩ := takeAway_eq (q := 0) h.pd h.dd hl (by clear g1 g2 g8; omega) (by clear g1 g2 g8; omega)
    have hc : ¬ c < 0 := by
      intro hc
      obtain ⟨y, c2, hg, e2⟩ := giveBack_eq ht.dg h.dd (by rw [ht.len]; exact hl)
      have := h.unfit q1 q3 ho ht hc (by exact hg)
      clear g1 g2 g8
      omega
    obtain ⟨f1, f2⟩ := h.fit q1 q3 ho ht hc
    refine ⟨0, x, by clear g1 g2 g8; omega, by clear g1 g2 g8; omega, ht.dg, ht.len, f1, f2, fun R hR => Ev.step (fun k => by rw [impl_natDiv.l1]) ?_⟩
    have ht2 := (not_congr (tests 0 q0 q1 q2)).2 ho
    simp only [g1, g2, if_pos g3, if_pos g4, if_pos g5, if_pos g6, if_pos g7, rd, Int.toNat_natCast, if_neg ht2]
    refine Ev.bind e ?_
    simp only [decide_eq_true_iff, if_neg hc, if_pos g9, if_pos g10, g8]
    exact hR
  | succ m ih =>
    intro q qm q0 q1 q2 q3
    by_cases ho : over P D n q
    · have hq : 1 ≤ q := by
        rcases Int.lt_or_le 0 q with hq | hq
        · clear g1 g2 g8; omega
        · exfalso
          obtain rfl : q = 0 := by clear g1 g2 g8; omega
          exact h.low (q := 0) (by clear g1 g2 g8; omega) (by have := val_nonneg h.pd; clear g1 g2 g8; omega) ho
      have hm : (q - 1) * D.getD (n + 1) 0 = q * D.getD (n + 1) 0 - D.getD (n + 1) 0 := by rw [Int.sub_mul, Int.one_mul]
      obtain ⟨g, x, r0, r1, r2, r3, r4, r5, r6⟩ := ih (q - 1) (by clear g1 g2 g8; omega) (by clear g1 g2 g8; omega) (by clear g1 g2 g8; omega) (by clear g1 g2 g8; omega) (fun t t0 t1 => by
        have h1 := q3 t t0 t1
        have h2 : t ≠ q := by rintro rfl; exact h.low t0 t1 ho
        clear g1 g2 g8
        omega)
      refine ⟨g, x, r0, r1, r2, r3, r4, r5, fun R hR => Ev.step (fun k => by rw [impl_natDiv.l1]) ?_⟩
      have ht2 := (tests q q0 q1 q2).2 ho
      have w : wrap64 (q - 1) = q - 1 := w64 (by clear g1 g2 g8 ht2; omega) (by clear g1 g2 g8 ht2; omega)
      simp only [g1, g2, if_pos g3, if_pos g4, if_pos g5, if_pos g6, if_pos g7, rd, Int.toNat_natCast, if_pos ht2, w]
      exact r6 R hR
    · obtain ⟨x, c, ht, e⟩ := takeAway_eq (q := q) h.pd h.dd hl q0 q1
      have ht2 := (not_congr (tests q q0 q1 q2)).2 ho
      by_cases hc : c < 0
      · obtain ⟨y, c2, hg, e2⟩ := giveBack_eq ht.dg h.dd (by rw [ht.len]; exact hl)
        obtain ⟨f1, f2, f3⟩ := h.unfit q1 q3 ho ht hc hg
        refine ⟨q - 1, y, f3, by clear g1 g2 g8 ht2; omega, hg.dg, by rw [hg.len, ht.len], f1, f2, fun R hR => Ev.step (fun k => by rw [impl_natDiv.l1]) ?_⟩
        have w : wrap64 (q - 1) = q - 1 := w64 (by clear g1 g2 g8 ht2; omega) (by clear g1 g2 g8 ht2; omega)
        simp only [g1, g2, if_pos g3, if_pos g4, if_pos g5, if_pos g6, if_pos g7, rd, Int.toNat_natCast, if_neg ht2]
        refine Ev.bind e ?_
        simp only [decide_eq_true_iff, if_pos hc]
        refine Ev.bind e2 ?_
        simp only [if_pos g9, if_pos g10, g8, w]
        exact hR
      · obtain ⟨f1, f2⟩ := h.fit q1 q3 ho ht hc
        refine ⟨q, x, q0, by clear g1 g2 g8 ht2; omega, ht.dg, ht.len, f1, f2, fun R hR => Ev.step (fun k => by rw [impl_natDiv.l1]) ?_⟩
        simp only [g1, g2, if_pos g3, if_pos g4, if_pos g5, if_pos g6, if_pos g7, rd, Int.toNat_natCast, if_neg ht2]
        refine Ev.bind e ?_
        simp only [decide_eq_true_iff, if_neg hc, if_pos g9, if_pos g10, g8]
        exact hR

theorem outer_loop {N : Int} {D : List Int} {n : Nat} {s : Int} (hd : Dg D) (hD : D.length = n + 2) (hpos : 0 < D.getD (n + 1) 0) {m : Nat} (hm : m + D.length ≤ 1048576) : ∀ (i : Nat) (r o : List Int), DivInv N D r o m i →
    ∃ r' o', DivInv N D r' o' m 0 ∧ ∀ R, Ev (fun k => impl_natDiv.l0 k ((n + 2 : Nat) : Int) s r' D o' (-1)) R → Ev (fun k => impl_natDiv.l0 k ((n + 2 : Nat) : Int) s r D o ((i : Int) - 1)) R := by
  intro i
  induction i with
  | zero => exact fun r o h => ⟨r, o, h, fun R hR => hR⟩
  | succ i ih =>
    intro r o h
    have hlt := h.lt hd
    have rlen := h.rlen
    have olen := h.olen
    have im := h.im
    have G : Guess ((r.drop i).take (D.length + 1)) D n := ⟨by rw [List.length_take, List.length_drop]; omega, hD, (h.rd.drop i).take _, hd, hpos, hlt⟩
    obtain ⟨P, hP⟩ : ∃ P, P = (r.drop i).take (D.length + 1) := ⟨_, rfl⟩
    rw [← hP] at G
    have hPl := G.plen
    have b1 := G.pd.getD (n + 1)
    have b2 := G.pd.getD (n + 2)
    have b3 := hd.getD (n + 1)
    have t0 : 0 ≤ P.getD (n + 2) 0 * 65536 + P.getD (n + 1) 0 := by omega
    have t1 : P.getD (n + 2) 0 * 65536 + P.getD (n + 1) 0 ≤ 4294967295 := by omega
    have hq : mn 65535 ((P.getD (n + 2) 0 * 65536 + P.getD (n + 1) 0) / D.getD (n + 1) 0) ≤ 65535 ∧ mn 65535 ((P.getD (n + 2) 0 * 65536 + P.getD (n + 1) 0) / D.getD (n + 1) 0) ≤ (P.getD (n + 2) 0 * 65536 + P.getD (n + 1) 0) / D.getD (n + 1) 0 ∧
        (∀ t, t ≤ 65535 → t ≤ (P.getD (n + 2) 0 * 65536 + P.getD (n + 1) 0) / D.getD (n + 1) 0 → t ≤ mn 65535 ((P.getD (n + 2) 0 * 65536 + P.getD (n + 1) 0) / D.getD (n + 1) 0)) := by
      unfold mn
      split
      · exact ⟨by omega, by omega, fun t h1 h2 => h2⟩
      · exact ⟨by omega, by omega, fun t h1 h2 => h1⟩
    have hdiv : 0 ≤ (P.getD (n + 2) 0 * 65536 + P.getD (n + 1) 0) / D.getD (n + 1) 0 := Int.ediv_nonneg t0 (by omega)
    have hdiv1 : (P.getD (n + 2) 0 * 65536 + P.getD (n + 1) 0) / D.getD (n + 1) 0 ≤ 4294967295 := by
      have := Int.ediv_le_self (D.getD (n + 1) 0) t0
      omega
    obtain ⟨hq1, hq2, hq3⟩ := hq
    have hq0 := hq3 0 (by omega) hdiv
    obtain ⟨g, x, g0, g1, xd, xl, xv, xlt, hr⟩ := digit_loop (r := r) (o := o) (j := i) (s := s) G (by omega) (by omega) (by omega) _ _ (Nat.le_refl _) hq0 hq1
      (by rw [Int.le_ediv_iff_mul_le hpos] at hq2; exact hq2) (fun t h0 h1 => (fun hf => hq3 t hf.1 hf.2) (G.first h0 h1))
    have hs := h.step hd (x := x) (q := g) xd (by rw [xl, hPl, hD]) g0 g1 (by rw [← hP]; exact xv) xlt
    obtain ⟨r', o', hfin, hrec⟩ := ih (spl r i x) (o.set i g) hs
    refine ⟨r', o', hfin, fun R hR => Ev.step (fun k => by rw [impl_natDiv.l0]) ?_⟩
    have key := hr R (hrec R hR)
    clear hr hrec hs ih hfin hR
    have e0 : ((i + 1 : Nat) : Int) - 1 = (i : Int) := by omega
    have e1 : wrap64 (wrap64 ((i : Int) + ((n + 2 : Nat) : Int)) + 1) = ((i + (n + 3) : Nat) : Int) := by
      rw [w64 (n := (i : Int) + _) (by omega) (by omega), w64 (by omega) (by omega)]
      omega
    have e2 : pt_ r (i : Int) ((i + (n + 3) : Nat) : Int) = P := by
      rw [hP, hD]
      unfold pt_
      rw [Int.toNat_natCast, Int.toNat_natCast, show i + (n + 3) - i = n + 2 + 1 by clear e1; omega]
    have e3 : wrap64 (((n + 2 : Nat) : Int) - 1) = ((n + 1 : Nat) : Int) := by rw [w64 (by clear e1; omega) (by clear e1; omega)]; clear e1; omega
    have e4 : wrap64 (P.getD (n + 2) 0 * 65536) = P.getD (n + 2) 0 * 65536 := w64 (by clear e1 e3; omega) (by clear e1 e3; omega)
    have e5 : wrap64 (P.getD (n + 2) 0 * 65536 + P.getD (n + 1) 0) = P.getD (n + 2) 0 * 65536 + P.getD (n + 1) 0 := w64 (by clear e1 e3 e4; omega) (by clear e1 e3 e4; omega)
    have e6 : wrap64 (Int.tdiv (P.getD (n + 2) 0 * 65536 + P.getD (n + 1) 0) (D.getD (n + 1) 0)) = (P.getD (n + 2) 0 * 65536 + P.getD (n + 1) 0) / D.getD (n + 1) 0 := by
      rw [Int.tdiv_eq_ediv_of_nonneg t0, w64 (by clear e1 e3 e4 e5; omega) (by clear e1 e3 e4 e5; omega)]
    have c1 : (i : Int) ≥ 0 := by clear e1 e3 e4 e5 e6; omega
    have c2 : (i : Int) ≤ ((i + (n + 3) : Nat) : Int) := by clear e1 e3 e4 e5 e6; omega
    have c3 : ((i + (n + 3) : Nat) : Int) ≤ (r.length : Int) := by clear e1 e3 e4 e5 e6; omega
    have c4 : 0 ≤ ((n + 2 : Nat) : Int) := by clear e1 e3 e4 e5 e6; omega
    have c5 : ((n + 2 : Nat) : Int) < (P.length : Int) := by clear e1 e3 e4 e5 e6; omega
    have c6 : 0 ≤ ((n + 1 : Nat) : Int) := by clear e1 e3 e4 e5 e6; omega
    have c7 : ((n + 1 : Nat) : Int) < (P.length : Int) := by clear e1 e3 e4 e5 e6; omega
    have c8 : ((n + 1 : Nat) : Int) < (D.length : Int) := by clear e1 e3 e4 e5 e6; omega
    have c9 : ¬ D.getD (n + 1) 0 = 0 := by clear e1 e3 e4 e5 e6; omega
    simp only [e0, if_pos c1, e1, if_pos c2, if_pos c3, if_pos c4, e2, if_pos c5, e3, if_pos c6, if_pos c7, if_pos c8, rd, Int.toNat_natCast, if_neg c9, e4, e5, e6]
    exact key

theorem clone_eq {a : List Int} (hl : a.length ≤ 1048576) : slices_Clone_int.f a = some a := by
  unfold slices_Clone_int.f
  rw [if_pos (by omega)]

/-- THE DIVISION: how often, and what is left. -/
theorem natDiv_eq {a b : List Int} (ha : Dg a) (hb : Dg b) (na : Nm a) (nb : Nm b) (hne : b ≠ []) (h1 : a.length ≤ 1000000) (h2 : b.length ≤ 1000000) :
    ∃ q r, val q * val b + val r = val a ∧ val r < val b ∧ Dg q ∧ Nm q ∧ Dg r ∧ Nm r ∧ q.length ≤ a.length + 1 ∧ r.length ≤ 1000001 ∧ Ev (fun k => impl_natDiv.f k a b) (q, r) := by
  have cs := implCompare_eq ha hb na nb (by omega) (by omega)
  have bl0 := List.length_pos_iff.2 hne
  unfold impl_natDiv.f
  by_cases hlt : val a < val b
  · have e : cmpI (val a) (val b) < 0 := by unfold cmpI; rw [if_pos hlt]; decide
    refine ⟨[], a, by simp [val], hlt, Dg.nil, by simp [Nm], ha, na, by simp, by omega, Ev.bind cs ?_⟩
    simp only [if_pos e, clone_eq (show a.length ≤ 1048576 by omega), Option.bind_some]
    exact Ev.now _
  · have e : ¬ cmpI (val a) (val b) < 0 := by unfold cmpI; rw [if_neg hlt]; split <;> decide
    have hll := len_le_of_val ha hb nb (show val b ≤ val a by omega)
    by_cases hl1 : b.length = 1
    · have lp := last_pos hb nb hne
      rw [hl1] at lp
      have b0 := hb.getD 0
      have vb : val b = b.getD 0 0 := by
        obtain ⟨d, rfl⟩ : ∃ d, b = [d] := List.length_eq_one_iff.1 hl1
        simp [val]
      obtain ⟨q, left, v, qd, qn, l0, l1, ql, e1⟩ := byDigit_eq ha (by omega) (d := b.getD 0 0) lp (by omega)
      obtain ⟨r, rl, rd', rn, rv, e2⟩ := implNatOf_eq (a := left) l0 (by omega)
      refine ⟨q, r, by rw [vb, rv]; exact v, by rw [vb, rv]; exact l1, qd, qn, rd', rn, by omega, by omega, Ev.bind cs ?_⟩
      have c1 : (b.length : Int) = 1 := by omega
      have c2 : (0 : Int) < (b.length : Int) := by omega
      simp only [if_neg e, if_pos c1, if_pos c2, rd, Int.toNat_zero]
      refine Ev.bind e1 ?_
      exact Ev.bind e2 (Ev.now _)
    · obtain ⟨n, hn⟩ : ∃ n, b.length = n + 2 := ⟨b.length - 2, by omega⟩
      have lp := last_pos hb nb hne
      have lb := hb.getD (b.length - 1)
      obtain ⟨L, hL⟩ : ∃ L, L = bl (b.getD (b.length - 1) 0).toNat := ⟨_, rfl⟩
      have hL16 : L ≤ 16 := by rw [hL]; exact bl_le (by omega)
      have hL1 : 1 ≤ L := by rw [hL, bl_pos (by omega)]; omega
      have hLlt : b.getD (b.length - 1) 0 + 1 ≤ 2 ^ L := by
        have h3 := bl_lt (b.getD (b.length - 1) 0).toNat
        rw [← hL] at h3
        have h4 := two_pow_int L
        omega
      have hs15 : 16 - L ≤ 15 := by omega
      have hp := pow15 hs15
      have hprod : (2 : Int) ^ L * 2 ^ (16 - L) = 65536 := by
        rw [← Int.pow_add, show L + (16 - L) = 16 by omega]
        decide
      have hlong : val b * 2 ^ (16 - L) < 65536 ^ b.length := long_lt hb hne (by omega) (by
        have := Int.mul_le_mul_of_nonneg_right hLlt (show (0 : Int) ≤ 2 ^ (16 - L) by omega)
        omega)
      obtain ⟨r0, r0v, r0d, r0l, e2⟩ := shifted_eq ha (by omega) hs15
      obtain ⟨d0, d0v, d0d, d0l, e3⟩ := shifted_eq hb (by omega) hs15
      have hdtake : val (d0.take b.length) = val b * 2 ^ (16 - L) := by
        have h3 := val_split d0 (i := b.length) (by omega)
        have h4 := val_nonneg (d0d.drop b.length)
        have h5 := val_nonneg (d0d.take b.length)
        have h6 : val (d0.drop b.length) = 0 := by
          rcases Int.lt_or_le 0 (val (d0.drop b.length)) with h7 | h7
          · have : 65536 ^ b.length * 1 ≤ 65536 ^ b.length * val (d0.drop b.length) := Int.mul_le_mul_of_nonneg_left (by omega) (Int.le_of_lt (pow_pos' _))
            omega
          · omega
        rw [h6] at h3
        omega
      have hdlen : (d0.take b.length).length = b.length := by rw [List.length_take]; omega
      obtain ⟨D, hD⟩ : ∃ D, D = d0.take b.length := ⟨_, rfl⟩
      have Dd : Dg D := by rw [hD]; exact d0d.take _
      rw [← hD] at hdtake hdlen
      have start := DivInv.start ha hb nb hne (t := 2 ^ (16 - L)) (by omega) r0d Dd r0l hdlen r0v hdtake hll
      have Dpos : 0 < D.getD (n + 1) 0 := by
        have h3 := Dd.getD (n + 1)
        rcases Int.lt_or_le 0 (D.getD (n + 1) 0) with h4 | h4
        · exact h4
        · exfalso
          have h5 : D.getD (n + 1) 0 = 0 := by omega
          have h6 := val_take_succ' D (n + 1)
          rw [show n + 1 + 1 = D.length by omega, List.take_length, h5, Int.mul_zero, Int.add_zero] at h6
          have h7 := (val_take_lt Dd (i := n + 1) (by omega)).2
          have h8 := val_ge hb nb hne
          rw [show b.length - 1 = n + 1 by omega] at h8
          have h9 : val b * 1 ≤ val b * 2 ^ (16 - L) := Int.mul_le_mul_of_nonneg_left (by omega) (val_nonneg hb)
          omega
      obtain ⟨r', o', fin, hrec⟩ := outer_loop (s := ((16 - L : Nat) : Int)) Dd (by omega) Dpos (by omega) (r0.length - D.length) _ _ start
      obtain ⟨f1, f2, f3⟩ := fin.done Dd
      have r'l := fin.rlen
      have o'l := fin.olen
      have T1 := trimmed_eq (r'.take (n + 2)) (by rw [List.length_take]; omega)
      have T2 := trimmed_eq o' (by omega)
      have tl := trim_len (r'.take (n + 2))
      rw [List.length_take] at tl
      obtain ⟨x, left, xv, xd, xn, l0, l1, xl, e4⟩ := byDigit_eq (a := trim (r'.take (n + 2))) (trim_dg (fin.rd.take _)) (by omega) (d := 2 ^ (16 - L)) (by omega) (by omega)
      rw [trim_val] at xv
      rw [show D.length = n + 2 by omega] at f1
      rw [f1] at xv
      rw [hdtake] at f2 f3
      obtain ⟨g1, g2, g3⟩ := div_back (by omega) f3 xv l0 l1 f2
      have tlo := trim_len o'
      refine ⟨trim o', x, by rw [trim_val]; exact g2, g3, trim_dg fin.od, trim_nm o', xd, xn, by omega, by omega, Ev.bind cs ?_⟩
      have w1 : wrap64 ((b.length : Int) - 1) = ((b.length - 1 : Nat) : Int) := by rw [w64 (by omega) (by omega)]; omega
      have c1 : ¬ (b.length : Int) = 1 := by clear w1; omega
      have c2 : 0 ≤ ((b.length - 1 : Nat) : Int) := by clear w1; omega
      have c3 : ((b.length - 1 : Nat) : Int) < (b.length : Int) := by clear w1; omega
      have c4 : 0 ≤ (b.length : Int) := by clear w1; omega
      have c5 : (b.length : Int) ≤ (d0.length : Int) := by clear w1; omega
      have w2 : wrap64 ((r0.length : Int) - (b.length : Int)) = ((r0.length - D.length : Nat) : Int) := by clear w1; rw [w64 (by omega) (by omega)]; omega
      have c6 : 0 ≤ ((r0.length - D.length : Nat) : Int) := by clear w1 w2; omega
      have c7 : r0.length - D.length ≤ 35184372088832 := by clear w1 w2; omega
      have w3 : wrap64 (16 - (L : Int)) = ((16 - L : Nat) : Int) := by clear w1 w2; rw [w64 (by omega) (by omega)]; omega
      have w4 : wrap64 (((r0.length - D.length : Nat) : Int) - 1) = ((r0.length - D.length : Nat) : Int) - 1 := by clear w1 w2 w3; exact w64 (by omega) (by omega)
      have w5 : (b.length : Int) = ((n + 2 : Nat) : Int) := by clear w1 w2 w3 w4; omega
      simp only [if_neg e, if_neg c1, w1, if_pos c2, if_pos c3, rd, Int.toNat_natCast]
      clear w1
      rw [u64w (by clear w2 w3 w4; omega) (by clear w2 w3 w4; omega)]
      refine Ev.bind (len_eq (by clear w2 w3 w4; omega) (by clear w2 w3 w4; omega)) ?_
      rw [← hL]
      simp only [w3]
      refine Ev.bind e2 ?_
      refine Ev.bind e3 ?_
      simp only [if_pos c4, if_pos c5, w2, if_pos c6, Int.toNat_natCast, if_pos c7, Option.bind_some, List.length_replicate, w4, ← hD]
      simp only [w5]
      refine hrec _ (Ev.step (fun k => by rw [impl_natDiv.l0]) ?_)
      have d1 : ¬ (-1 : Int) ≥ 0 := by clear w2 w3 w4; omega
      have d2 : 0 ≤ ((n + 2 : Nat) : Int) := by clear w2 w3 w4; omega
      have d3 : ((n + 2 : Nat) : Int) ≤ (r'.length : Int) := by clear w2 w3 w4; omega
      have d4 : 0 ≤ ((16 - L : Nat) : Int) := by clear w2 w3 w4; omega
      have w6 : shl .i64 1 ((16 - L : Nat) : Int) = 2 ^ (16 - L) := by
        clear w2 w3 w4
        rw [shl_eq (x := 1) (16 - L) hs15 (by omega) (by omega), Int.one_mul]
      simp only [if_neg d1, if_pos d2, if_pos d3, Int.toNat_natCast]
      refine Ev.bind T1 ?_
      simp only [if_pos d4, w6]
      refine Ev.bind e4 ?_
      exact Ev.bind T2 (Ev.now _)

theorem getD_out {l : List Int} {i : Nat} (h : ¬ (i : Int) < (l.length : Int)) : l.getD i 0 = 0 := by
  rw [List.getD_eq_getElem?_getD, List.getElem?_eq_none (by omega)]
  rfl

theorem implSub_loop {a b : List Int} (ha : Dg a) (hb : Dg b) (nb : Nm b) (hv : val b ≤ val a) (h1 : a.length ≤ 1048576) : ∀ (d i : Nat) (x : List Int) (c : Int), a.length = i + d → SubInv a b x c i →
    ∃ r, val r = val a - val b ∧ Dg r ∧ r.length = a.length ∧ Ev (fun k => impl_natSub.l0 k b x c a (a.length : Int) (i : Int)) (trim r) := by
  intro d
  induction d with
  | zero =>
    intro i x c hi h
    obtain rfl : i = a.length := by omega
    refine ⟨x, h.done ha hb nb hv, h.dg, h.len, Ev.step (fun k => by rw [impl_natSub.l0]) ?_⟩
    simp only [if_neg (show ¬ (a.length : Int) < (a.length : Int) by omega)]
    exact Ev.bind (trimmed_eq x (by rw [h.len]; omega)) (Ev.now _)
  | succ d ih =>
    intro i x c hi h
    have b1 := ha.getD i
    have b2 := hb.getD i
    have c0 := h.c0
    have c1 := h.c1
    have len := h.len
    have key : ∀ y : Int, y = b.getD i 0 → ∃ r, val r = val a - val b ∧ Dg r ∧ r.length = a.length ∧
        Ev (fun k => if wrap64 (wrap64 (a.getD i 0 - c) - y) < 0 then (if x.length < 17592186044416 then impl_natSub.l0 k b (x ++ [wrap64 (wrap64 (wrap64 (a.getD i 0 - c) - y) + 65536)]) 1 a (a.length : Int) ((i + 1 : Nat) : Int) else none)
          else (if x.length < 17592186044416 then impl_natSub.l0 k b (x ++ [wrap64 (wrap64 (a.getD i 0 - c) - y)]) 0 a (a.length : Int) ((i + 1 : Nat) : Int) else none)) (trim r) := by
      intro y hy
      subst hy
      rw [w64 (n := a.getD i 0 - c) (by omega) (by omega), w64 (n := a.getD i 0 - c - b.getD i 0) (by omega) (by omega)]
      by_cases hlt : a.getD i 0 - c - b.getD i 0 < 0
      · obtain ⟨r, v, g, l, e⟩ := ih (i + 1) _ _ (by omega) (h.step_lt ha hb hlt)
        refine ⟨r, v, g, l, ?_⟩
        simp only [if_pos hlt, if_pos (show x.length < 17592186044416 by omega)]
        rw [w64 (by omega) (by omega)]
        exact e
      · obtain ⟨r, v, g, l, e⟩ := ih (i + 1) _ _ (by omega) (h.step_ge ha hb hlt)
        refine ⟨r, v, g, l, ?_⟩
        simp only [if_neg hlt, if_pos (show x.length < 17592186044416 by omega)]
        exact e
    by_cases p2 : (i : Int) < (b.length : Int)
    · obtain ⟨r, v, g, l, e⟩ := key (b.getD i 0) rfl
      refine ⟨r, v, g, l, Ev.step (fun k => by rw [impl_natSub.l0]) ?_⟩
      simp only [if_pos (show (i : Int) < (a.length : Int) by omega), if_pos (show 0 ≤ (i : Int) by omega), if_pos p2, rd, Int.toNat_natCast, wsucc (show i ≤ 1099511627776 by omega)]
      exact e
    · obtain ⟨r, v, g, l, e⟩ := key 0 (getD_out p2).symm
      refine ⟨r, v, g, l, Ev.step (fun k => by rw [impl_natSub.l0]) ?_⟩
      simp only [if_pos (show (i : Int) < (a.length : Int) by omega), if_pos (show 0 ≤ (i : Int) by omega), if_neg p2, rd, Int.toNat_natCast, wsucc (show i ≤ 1099511627776 by omega)]
      rw [w64 (n := a.getD i 0 - c) (by omega) (by omega), Int.sub_zero, w64 (n := a.getD i 0 - c) (by omega) (by omega)] at e
      rw [w64 (n := a.getD i 0 - c) (by omega) (by omega)]
      exact e

theorem implSub_eq {a b : List Int} (ha : Dg a) (hb : Dg b) (nb : Nm b) (hv : val b ≤ val a) (h1 : a.length ≤ 1048576) :
    ∃ r, val r = val a - val b ∧ Dg r ∧ Nm r ∧ r.length ≤ a.length ∧ Ev (fun k => impl_natSub.f k a b) r := by
  obtain ⟨r, v, d, l, e⟩ := implSub_loop ha hb nb hv h1 a.length 0 [] 0 (by omega) (SubInv.start a b)
  have := trim_len r
  exact ⟨trim r, by rw [trim_val, v], trim_dg d, trim_nm r, by omega, e⟩

theorem tm {x m : Int} (h : 0 ≤ x) : Int.tmod x m = x % m := Int.tmod_eq_emod_of_nonneg h
theorem td {x m : Int} (h : 0 ≤ x) : Int.tdiv x m = x / m := Int.tdiv_eq_ediv_of_nonneg h

theorem implAdd_loop {a b : List Int} (ha : Dg a) (hb : Dg b) (n : Nat) (hn : n ≤ 1048577) (h1 : a.length + 1 ≤ n) (h2 : b.length + 1 ≤ n) : ∀ (d i : Nat) (x : List Int) (c : Int), n = i + d → AddInv a b x c i →
    ∃ r, val r = val a + val b ∧ Dg r ∧ r.length = n ∧ Ev (fun k => impl_natAdd.l0 k a b x c (n : Int) (i : Int)) (trim r) := by
  intro d
  induction d with
  | zero =>
    intro i x c hi h
    obtain ⟨rfl, hv⟩ := h.done ha hb (by omega) (by omega)
    refine ⟨x, hv, h.dg, by rw [h.len]; omega, Ev.step (fun k => by rw [impl_natAdd.l0]) ?_⟩
    simp only [if_neg (show ¬ (i : Int) < (n : Int) by omega)]
    exact Ev.bind (trimmed_eq x (by rw [h.len]; omega)) (Ev.now _)
  | succ d ih =>
    intro i x c hi h
    obtain ⟨r, hv, hd, hl, hr⟩ := ih (i + 1) _ _ (by omega) (h.step ha hb)
    refine ⟨r, hv, hd, hl, Ev.step (fun k => by rw [impl_natAdd.l0]) ?_⟩
    have b1 := ha.getD i
    have b2 := hb.getD i
    have c0 := h.c0
    have c1 := h.c1
    have len := h.len
    simp only [if_pos (show (i : Int) < (n : Int) by omega), if_pos (show 0 ≤ (i : Int) by omega), if_pos (show x.length < 17592186044416 by omega), rd, Int.toNat_natCast, wsucc (show i ≤ 1099511627776 by omega)]
    by_cases p1 : (i : Int) < (a.length : Int)
    · by_cases p2 : (i : Int) < (b.length : Int)
      · simp only [if_pos p1, if_pos p2]
        rw [w64 (n := c + a.getD i 0) (by omega) (by omega), w64 (n := c + a.getD i 0 + b.getD i 0) (by omega) (by omega), tm (by omega), td (by omega), w64 (by omega) (by omega)]
        exact hr
      · simp only [if_pos p1, if_neg p2]
        rw [getD_out p2, Int.add_zero] at hr
        rw [w64 (n := c + a.getD i 0) (by omega) (by omega), tm (by omega), td (by omega), w64 (by omega) (by omega)]
        exact hr
    · rw [getD_out p1, Int.add_zero] at hr
      by_cases p2 : (i : Int) < (b.length : Int)
      · simp only [if_neg p1, if_pos p2]
        rw [w64 (n := c + b.getD i 0) (by omega) (by omega), tm (by omega), td (by omega), w64 (by omega) (by omega)]
        exact hr
      · simp only [if_neg p1, if_neg p2]
        rw [getD_out p2, Int.add_zero] at hr
        rw [tm (by omega), td (by omega), w64 (by omega) (by omega)]
        exact hr

theorem implAdd_eq {a b : List Int} (ha : Dg a) (hb : Dg b) (h1 : a.length ≤ 1048576) (h2 : b.length ≤ 1048576) :
    ∃ r, val r = val a + val b ∧ Dg r ∧ Nm r ∧ r.length ≤ 1048577 ∧ (r.length ≤ a.length + 1 ∨ r.length ≤ b.length + 1) ∧ Ev (fun k => impl_natAdd.f k a b) r := by
  unfold impl_natAdd.f
  have e : wrap64 (mx (a.length : Int) (b.length : Int) + 1) = ((max a.length b.length + 1 : Nat) : Int) := by
    have : mx (a.length : Int) (b.length : Int) = ((max a.length b.length : Nat) : Int) := by
      unfold mx
      split <;> omega
    rw [this, w64 (by omega) (by omega)]
    omega
  obtain ⟨r, hv, hd, hl, hr⟩ := implAdd_loop ha hb (max a.length b.length + 1) (by omega) (by omega) (by omega) (max a.length b.length + 1) 0 [] 0 (by omega) (AddInv.start a b)
  have := trim_len r
  refine ⟨trim r, by rw [trim_val, hv], trim_dg hd, trim_nm r, by omega, by omega, ?_⟩
  rw [e]
  exact hr

theorem specAdd_loop {a b : List Int} (ha : Dg a) (hb : Dg b) (h1 : a.length ≤ 1048576) (h2 : b.length ≤ 1048576) : ∀ (d i : Nat) (x : List Int) (c : Int), max a.length b.length + 1 ≤ i + d → i ≤ 1048577 → AddInv a b x c i →
    ∃ r, val r = val a + val b ∧ Dg r ∧ Ev (fun k => spec_l1Add.l0 k a b x c (i : Int)) (trim r) := by
  intro d
  induction d with
  | zero =>
    intro i x c hi hi' h
    obtain ⟨rfl, hv⟩ := h.done ha hb (by omega) (by omega)
    refine ⟨x, hv, h.dg, Ev.step (fun k => by rw [spec_l1Add.l0]) ?_⟩
    simp only [if_neg (show ¬ (i : Int) < (a.length : Int) by omega), if_neg (show ¬ (i : Int) < (b.length : Int) by omega)]
    refine Ev.step (fun k => by rw [spec_l1Add.j1]) ?_
    simp only [show decide ((0 : Int) > 0) = false by decide, Bool.false_eq_true, if_false]
    exact Ev.bind (norm_eq x (by rw [h.len]; omega)) (Ev.now _)
  | succ d ih =>
    intro i x c hi hi' h
    by_cases he : ¬ (i : Int) < (a.length : Int) ∧ ¬ (i : Int) < (b.length : Int) ∧ c = 0
    · obtain ⟨e1, e2, rfl⟩ := he
      refine ⟨x, h.done0 (by omega) (by omega), h.dg, Ev.step (fun k => by rw [spec_l1Add.l0]) ?_⟩
      simp only [if_neg e1, if_neg e2]
      refine Ev.step (fun k => by rw [spec_l1Add.j1]) ?_
      simp only [show decide ((0 : Int) > 0) = false by decide, Bool.false_eq_true, if_false]
      exact Ev.bind (norm_eq x (by rw [h.len]; omega)) (Ev.now _)
    · have hlt : i < max a.length b.length + 1 := by
        rcases Nat.lt_or_ge i (max a.length b.length + 1) with h' | h'
        · exact h'
        · have := (h.done ha hb (by omega) (by omega)).1
          exact absurd ⟨by omega, by omega, this⟩ he
      have b1 := ha.getD i
      have b2 := hb.getD i
      have c0 := h.c0
      have c1 := h.c1
      have len := h.len
      obtain ⟨r, hv, hd, hr⟩ := ih (i + 1) _ _ (by omega) (by omega) (h.step ha hb)
      have hj : Ev (fun k => spec_l1Add.j1 k a b x c (i : Int) true) (trim r) := by
        refine Ev.step (fun k => by rw [spec_l1Add.j1]) ?_
        simp only [if_true, digit_eq _ (show 0 ≤ (i : Int) by omega), Option.bind_some, Int.toNat_natCast, if_pos (show x.length < 17592186044416 by omega), wsucc (show i ≤ 1099511627776 by omega)]
        rw [w64 (n := a.getD i 0 + b.getD i 0) (by omega) (by omega), show a.getD i 0 + b.getD i 0 + c = c + a.getD i 0 + b.getD i 0 by omega, w64 (n := c + a.getD i 0 + b.getD i 0) (by omega) (by omega), Int.tmod_eq_emod_of_nonneg (by omega), Int.tdiv_eq_ediv_of_nonneg (by omega), w64 (by omega) (by omega)]
        exact hr
      refine ⟨r, hv, hd, Ev.step (fun k => by rw [spec_l1Add.l0]) ?_⟩
      by_cases p1 : (i : Int) < (a.length : Int)
      · simp only [if_pos p1]; exact hj
      · by_cases p2 : (i : Int) < (b.length : Int)
        · simp only [if_neg p1, if_pos p2]; exact hj
        · have : c > 0 := by
            rcases Int.lt_or_le 0 c with h' | h'
            · exact h'
            · exact absurd ⟨p1, p2, by omega⟩ he
          simp only [if_neg p1, if_neg p2, this, decide_true]; exact hj

theorem specAdd_eq {a b : List Int} (ha : Dg a) (hb : Dg b) (h1 : a.length ≤ 1048576) (h2 : b.length ≤ 1048576) :
    ∃ r, val r = val a + val b ∧ Dg r ∧ Nm r ∧ Ev (fun k => spec_l1Add.f k a b) r := by
  obtain ⟨r, hv, hd, hr⟩ := specAdd_loop ha hb h1 h2 (max a.length b.length + 1) 0 [] 0 (by omega) (by omega) (AddInv.start a b)
  exact ⟨trim r, by rw [trim_val, hv], trim_dg hd, trim_nm r, hr⟩

theorem specSub_loop {a b : List Int} (ha : Dg a) (hb : Dg b) (nb : Nm b) (hv : val b ≤ val a) (h1 : a.length ≤ 1048576) : ∀ (d i : Nat) (x : List Int) (c : Int), a.length = i + d → SubInv a b x c i →
    ∃ r, val r = val a - val b ∧ Dg r ∧ r.length = a.length ∧ Ev (fun k => spec_l1Sub.l0 k a b x c (i : Int)) (trim r) := by
  intro d
  induction d with
  | zero =>
    intro i x c hi h
    obtain rfl : i = a.length := by omega
    refine ⟨x, h.done ha hb nb hv, h.dg, h.len, Ev.step (fun k => by rw [spec_l1Sub.l0]) ?_⟩
    simp only [if_neg (show ¬ (a.length : Int) < (a.length : Int) by omega)]
    exact Ev.bind (norm_eq x (by rw [h.len]; omega)) (Ev.now _)
  | succ d ih =>
    intro i x c hi h
    have b1 := ha.getD i
    have b2 := hb.getD i
    have c0 := h.c0
    have c1 := h.c1
    have len := h.len
    have sw : a.getD i 0 - b.getD i 0 - c = a.getD i 0 - c - b.getD i 0 := by omega
    by_cases hlt : a.getD i 0 - c - b.getD i 0 < 0
    · obtain ⟨r, v, g, l, e⟩ := ih (i + 1) _ _ (by omega) (h.step_lt ha hb hlt)
      refine ⟨r, v, g, l, Ev.step (fun k => by rw [spec_l1Sub.l0]) ?_⟩
      simp only [if_pos (show (i : Int) < (a.length : Int) by omega), if_pos (show 0 ≤ (i : Int) by omega), digit_eq _ (show 0 ≤ (i : Int) by omega), Option.bind_some, rd, Int.toNat_natCast, wsucc (show i ≤ 1099511627776 by omega)]
      rw [w64 (n := a.getD i 0 - b.getD i 0) (by omega) (by omega), sw, w64 (n := a.getD i 0 - c - b.getD i 0) (by omega) (by omega)]
      simp only [if_pos hlt, if_pos (show x.length < 17592186044416 by omega)]
      rw [w64 (by omega) (by omega)]
      exact e
    · obtain ⟨r, v, g, l, e⟩ := ih (i + 1) _ _ (by omega) (h.step_ge ha hb hlt)
      refine ⟨r, v, g, l, Ev.step (fun k => by rw [spec_l1Sub.l0]) ?_⟩
      simp only [if_pos (show (i : Int) < (a.length : Int) by omega), if_pos (show 0 ≤ (i : Int) by omega), digit_eq _ (show 0 ≤ (i : Int) by omega), Option.bind_some, rd, Int.toNat_natCast, wsucc (show i ≤ 1099511627776 by omega)]
      rw [w64 (n := a.getD i 0 - b.getD i 0) (by omega) (by omega), sw, w64 (n := a.getD i 0 - c - b.getD i 0) (by omega) (by omega)]
      simp only [if_neg hlt, if_pos (show x.length < 17592186044416 by omega)]
      exact e

theorem specSub_eq {a b : List Int} (ha : Dg a) (hb : Dg b) (nb : Nm b) (hv : val b ≤ val a) (h1 : a.length ≤ 1048576) :
    ∃ r, val r = val a - val b ∧ Dg r ∧ Nm r ∧ r.length ≤ a.length ∧ Ev (fun k => spec_l1Sub.f k a b) r := by
  obtain ⟨r, v, d, l, e⟩ := specSub_loop ha hb nb hv h1 a.length 0 [] 0 (by omega) (SubInv.start a b)
  have := trim_len r
  exact ⟨trim r, by rw [trim_val, v], trim_dg d, trim_nm r, by omega, e⟩

/-- Digits times a digit. -/
structure TimIn (a o : List Int) (q c : Int) (i : Nat) : Prop where
  len : o.length = i
  dg : Dg o
  c0 : 0 ≤ c
  c1 : c ≤ 65535
  eq : val o + 65536 ^ i * c = val (a.take i) * q

theorem tim_bound {c x q : Int} (c0 : 0 ≤ c) (c1 : c ≤ 65535) (x0 : 0 ≤ x) (x1 : x < 65536) (q0 : 0 ≤ q) (q1 : q ≤ 65535) :
    0 ≤ x * q ∧ x * q ≤ 4294836225 ∧ 0 ≤ x * q + c ∧ (x * q + c) / 65536 ≤ 65535 := by
  have h1 : 0 ≤ x * q := Int.mul_nonneg x0 q0
  have h2 : x * q ≤ 65535 * 65535 := Int.mul_le_mul (by omega) (by omega) q0 (by omega)
  omega

theorem TimIn.step {a o : List Int} {q c : Int} {i : Nat} (ha : Dg a) (q0 : 0 ≤ q) (q1 : q ≤ 65535) (h : TimIn a o q c i) :
    TimIn a (o ++ [(a.getD i 0 * q + c) % 65536]) q ((a.getD i 0 * q + c) / 65536) (i + 1) := by
  obtain ⟨len, dg, c0, c1, eq⟩ := h
  have b := ha.getD i
  obtain ⟨h1, h2, h3, h4⟩ := tim_bound c0 c1 b.1 b.2 q0 q1
  refine ⟨by simp [len], dg.snoc (by omega) (by omega), by omega, h4, ?_⟩
  rw [val_snoc, len, val_take_succ', Int.pow_succ]
  have e : (a.getD i 0 * q + c) % 65536 + 65536 * ((a.getD i 0 * q + c) / 65536) = a.getD i 0 * q + c := by omega
  generalize (a.getD i 0 * q + c) % 65536 = m at *
  generalize (a.getD i 0 * q + c) / 65536 = r at *
  generalize (65536 : Int) ^ i = P at *
  generalize a.getD i 0 = y at *
  generalize val (a.take i) = z at *
  clear h1 h2 h3 h4 b c0 c1 dg len ha q0 q1
  grind

theorem times_loop {a : List Int} (ha : Dg a) (hl : a.length ≤ 1048576) {q : Int} (q0 : 0 ≤ q) (q1 : q ≤ 65535) : ∀ (m i : Nat) (o : List Int) (c : Int), a.length + 1 = i + m → TimIn a o q c i →
    ∃ r, val r = val a * q ∧ Dg r ∧ Nm r ∧ r.length ≤ a.length + 1 ∧ Ev (fun k => spec_l1Times.l0 k a q o c (i : Int)) r := by
  intro m
  induction m with
  | zero =>
    intro i o c hi h
    obtain rfl : i = a.length + 1 := by omega
    have len := h.len
    have hv := h.eq
    rw [List.take_of_length_le (by omega)] at hv
    have c0 : c = 0 := by
      rcases Int.lt_or_le 0 c with h1 | h1
      · exfalso
        have h2 : 65536 ^ (a.length + 1) * 1 ≤ 65536 ^ (a.length + 1) * c := Int.mul_le_mul_of_nonneg_left (by omega) (Int.le_of_lt (pow_pos' _))
        have h3 := val_lt ha
        have h4 := val_nonneg h.dg
        have h5 : val a * q ≤ val a * 65536 := Int.mul_le_mul_of_nonneg_left (by omega) (val_nonneg ha)
        rw [Int.pow_succ] at h2 hv
        omega
      · have := h.c0
        omega
    subst c0
    have tl := trim_len o
    refine ⟨trim o, by rw [trim_val]; omega, trim_dg h.dg, trim_nm o, by omega, Ev.step (fun k => by rw [spec_l1Times.l0]) ?_⟩
    have g1 : ¬ ((a.length + 1 : Nat) : Int) < (a.length : Int) := by omega
    have g2 : ¬ (0 : Int) > 0 := by omega
    simp only [if_neg g1, if_neg g2]
    exact Ev.bind (norm_eq o (by omega)) (Ev.now _)
  | succ m ih =>
    intro i o c hi h
    have len := h.len
    have c0 := h.c0
    have c1 := h.c1
    have b := ha.getD i
    obtain ⟨h1, h2, h3, h4⟩ := tim_bound c0 c1 b.1 b.2 q0 q1
    have w1 : wrap64 (a.getD i 0 * q) = a.getD i 0 * q := w64 (by omega) (by omega)
    have w2 : wrap64 (a.getD i 0 * q + c) = a.getD i 0 * q + c := w64 (by clear w1; omega) (by clear w1; omega)
    have w3 : Int.tmod (a.getD i 0 * q + c) 65536 = (a.getD i 0 * q + c) % 65536 := Int.tmod_eq_emod_of_nonneg h3
    have w4 : wrap64 (Int.tdiv (a.getD i 0 * q + c) 65536) = (a.getD i 0 * q + c) / 65536 := by
      rw [Int.tdiv_eq_ediv_of_nonneg h3, w64 (by clear w1 w2; omega) (by clear w1 w2; omega)]
    have w5 : wrap64 ((i : Int) + 1) = ((i + 1 : Nat) : Int) := wsucc (by clear w1 w2 w4; omega)
    have g3 : o.length < 17592186044416 := by clear w1 w2 w4 w5; omega
    have dg : spec_l1Digit.f a (i : Int) = some (a.getD i 0) := by
      rw [digit_eq a (by clear w1 w2 w4 w5; omega), Int.toNat_natCast]
    by_cases hlt : (i : Int) < (a.length : Int)
    · obtain ⟨r, v, d, n, l, e⟩ := ih (i + 1) _ _ (by clear w1 w2 w4 w5; omega) (h.step ha q0 q1)
      refine ⟨r, v, d, n, l, Ev.step (fun k => by rw [spec_l1Times.l0]) ?_⟩
      simp only [if_pos hlt, dg, Option.bind_some, if_pos g3, w1, w2, w3, w4, w5]
      exact e
    · by_cases hc : c > 0
      · obtain ⟨r, v, d, n, l, e⟩ := ih (i + 1) _ _ (by clear w1 w2 w4 w5; omega) (h.step ha q0 q1)
        refine ⟨r, v, d, n, l, Ev.step (fun k => by rw [spec_l1Times.l0]) ?_⟩
        simp only [if_neg hlt, if_pos hc, dg, Option.bind_some, if_pos g3, w1, w2, w3, w4, w5]
        exact e
      · have hv := h.eq
        rw [List.take_of_length_le (by clear w1 w2 w4 w5; omega), show c = 0 by clear w1 w2 w4 w5; omega] at hv
        have tl := trim_len o
        refine ⟨trim o, by rw [trim_val]; clear w1 w2 w4 w5; omega, trim_dg h.dg, trim_nm o, by clear w1 w2 w4 w5; omega, Ev.step (fun k => by rw [spec_l1Times.l0]) ?_⟩
        simp only [if_neg hlt, if_neg hc]
        exact Ev.bind (norm_eq o (by clear w1 w2 w4 w5; omega)) (Ev.now _)

theorem times_eq {a : List Int} (ha : Dg a) (hl : a.length ≤ 1048576) {q : Int} (q0 : 0 ≤ q) (q1 : q ≤ 65535) :
    ∃ r, val r = val a * q ∧ Dg r ∧ Nm r ∧ r.length ≤ a.length + 1 ∧ Ev (fun k => spec_l1Times.f k a q) r :=
  times_loop ha hl q0 q1 (a.length + 1) 0 [] 0 (by omega) ⟨rfl, Dg.nil, by omega, by omega, by simp [val]⟩

/-- THE HALVING: it comes to the greatest digit whose product is not above what is left. -/
theorem halving {a b o x : List Int} {i Q : Int} (hb : Dg b) (hbl : b.length ≤ 1000000) (hx : Dg x) (nx : Nm x) (hxl : x.length ≤ 1000001) (hQ : ∀ t : Int, t * val b ≤ val x ↔ t ≤ Q) : ∀ (m : Nat) (lo hi : Int), (hi - lo).toNat ≤ m → 0 ≤ lo → hi ≤ 65535 → lo ≤ Q → Q ≤ hi →
    ∀ R, Ev (fun k => spec_l1Div.l1 k a b o x i Q Q) R → Ev (fun k => spec_l1Div.l1 k a b o x i lo hi) R := by
  intro m
  induction m with
  | zero =>
    intro lo hi hm h0 h1 h2 h3 R hR
    obtain rfl : lo = Q := by omega
    obtain rfl : hi = lo := by omega
    exact hR
  | succ m ih =>
    intro lo hi hm h0 h1 h2 h3 R hR
    by_cases hlt : lo < hi
    · have w : wrap64 (Int.tdiv (wrap64 (wrap64 (lo + hi) + 1)) 2) = (lo + hi + 1) / 2 := by
        rw [w64 (n := lo + hi) (by omega) (by omega), w64 (n := lo + hi + 1) (by omega) (by omega), Int.tdiv_eq_ediv_of_nonneg (by omega), w64 (by omega) (by omega)]
      obtain ⟨M, hM⟩ : ∃ M, M = (lo + hi + 1) / 2 := ⟨_, rfl⟩
      rw [← hM] at w
      obtain ⟨r, rv, rd', rn, rl, e⟩ := times_eq hb (by clear w; omega) (q := M) (by clear w; omega) (by clear w; omega)
      have cs := specCompare_eq rd' hx rn nx (by clear w; omega) (by clear w; omega)
      have w2 : wrap64 (M - 1) = M - 1 := w64 (by clear w; omega) (by clear w; omega)
      have hq := hQ M
      rw [Int.mul_comm, ← rv] at hq
      refine Ev.step (fun k => by rw [spec_l1Div.l1]) ?_
      simp only [if_pos hlt, w, w2]
      refine Ev.bind e ?_
      refine Ev.bind cs ?_
      by_cases hc : val r ≤ val x
      · have ec : cmpI (val r) (val x) ≤ 0 := by unfold cmpI; split <;> (try split) <;> (clear w w2; omega)
        have hM1 := hq.1 hc
        simp only [if_pos ec]
        exact ih M hi (by clear w w2; omega) (by clear w w2; omega) h1 hM1 h3 R hR
      · have ec : ¬ cmpI (val r) (val x) ≤ 0 := by unfold cmpI; rw [if_neg (by clear w w2; omega), if_pos (by clear w w2; omega)]; clear w w2; omega
        have hM1 : ¬ M ≤ Q := fun h => hc (hq.2 h)
        simp only [if_neg ec]
        exact ih lo (M - 1) (by clear w w2; omega) h0 (by clear w w2; omega) h2 (by clear w w2; omega) R hR
    · obtain rfl : lo = Q := by omega
      obtain rfl : hi = lo := by omega
      exact hR

theorem specDiv_loop {a b : List Int} (ha : Dg a) (hb : Dg b) (nb : Nm b) (hp : 0 < val b) (hal : a.length ≤ 1000000) (hbl : b.length ≤ 1000000) : ∀ (i : Nat) (o x : List Int), i ≤ a.length → Dg x → Nm x → ByIn a o (val b) (val x) i →
    ∃ q r, ByIn a q (val b) (val r) 0 ∧ Dg r ∧ Nm r ∧ Ev (fun k => spec_l1Div.l0 k a b o x ((i : Int) - 1)) (trim q, r) := by
  intro i
  induction i with
  | zero =>
    intro o x _ hx nx h
    have hlen := h.len
    refine ⟨o, x, h, hx, nx, Ev.step (fun k => by rw [spec_l1Div.l0]) ?_⟩
    simp only [if_neg (show ¬ ((0 : Nat) : Int) - 1 ≥ 0 by omega)]
    exact Ev.bind (norm_eq o (by omega)) (Ev.now _)
  | succ i ih =>
    intro o x hi hx nx h
    have hlen := h.len
    have l0 := h.l0
    have l1 := h.l1
    have bb := ha.getD i
    have hxl : x.length ≤ b.length := len_le_of_val hb hx nx (by omega)
    obtain ⟨s1, s2, s3, s4, s5⟩ := by_step l0 l1 bb.1 bb.2
    have hstep := h.step ha (by omega)
    obtain ⟨X, hX⟩ : ∃ X, X = val x * 65536 + a.getD i 0 := ⟨_, rfl⟩
    rw [← hX] at s1 s2 s3 s4 s5 hstep
    obtain ⟨Q, hQ⟩ : ∃ Q, Q = X / val b := ⟨_, rfl⟩
    rw [← hQ] at s1 s2 s5 hstep
    have x2d : Dg (a.getD i 0 :: x) := Dg.of bb.1 bb.2 hx
    have tv : val (trim (a.getD i 0 :: x)) = X := by rw [trim_val, hX]; simp only [val]; omega
    have tl := trim_len (a.getD i 0 :: x)
    rw [List.length_cons] at tl
    have hbin := halving (a := a) (o := o) (i := (i : Int)) (Q := Q) hb hbl (trim_dg x2d) (trim_nm _) (by omega) (fun t => by rw [tv, hQ, Int.le_ediv_iff_mul_le hp]) 65535 0 65535 (by omega) (by omega) (by omega) s1 (by omega)
    obtain ⟨r, rv, rd', rn, rl, e1⟩ := times_eq hb (by omega) (q := Q) s1 (by omega)
    have rv' : val r = Q * val b := by rw [rv, Int.mul_comm]
    obtain ⟨y, yv, yd, yn, yl, e2⟩ := specSub_eq (a := trim (a.getD i 0 :: x)) (b := r) (trim_dg x2d) rd' rn (by rw [tv]; omega) (by omega)
    have yv' : val y = X % val b := by rw [yv, tv]; omega
    rw [← yv'] at hstep
    obtain ⟨q, z, f1, f2, f3, f4⟩ := ih (o.set i Q) y (by omega) yd yn hstep
    refine ⟨q, z, f1, f2, f3, Ev.step (fun k => by rw [spec_l1Div.l0]) ?_⟩
    have e0 : ((i + 1 : Nat) : Int) - 1 = (i : Int) := by omega
    have c1 : (i : Int) ≥ 0 := by omega
    have c2 : (i : Int) < (a.length : Int) := by omega
    have c3 : (i : Int) < (o.length : Int) := by omega
    have c4 : ([a.getD i 0] : List Int).length + x.length < 17592186044416 := by simp only [List.length_singleton]; omega
    have w : wrap64 ((i : Int) - 1) = (i : Int) - 1 := w64 (by omega) (by omega)
    simp only [e0, if_pos c1, if_pos c2, Option.bind_some, rd, Int.toNat_natCast, if_pos c4, List.cons_append, List.nil_append]
    refine Ev.bind (norm_eq (a.getD i 0 :: x) (by rw [List.length_cons]; clear w; omega)) ?_
    refine hbin _ (Ev.step (fun k => by rw [spec_l1Div.l1]) ?_)
    have c5 : ¬ Q < Q := by clear w; omega
    simp only [if_neg c5, if_pos c1, if_pos c3, Int.toNat_natCast, w]
    refine Ev.bind e1 ?_
    exact Ev.bind e2 f4

/-- WHAT IS ASKED FOR: how often, and what is left. -/
theorem specDiv_eq {a b : List Int} (ha : Dg a) (hb : Dg b) (nb : Nm b) (hne : b ≠ []) (hal : a.length ≤ 1000000) (hbl : b.length ≤ 1000000) :
    ∃ q r, val q * val b + val r = val a ∧ val r < val b ∧ Dg q ∧ Nm q ∧ Dg r ∧ Nm r ∧ Ev (fun k => spec_l1Div.f k a b) (q, r) := by
  have hp : 0 < val b := by
    have h1 := val_ge hb nb hne
    have h2 := pow_pos' (b.length - 1)
    omega
  obtain ⟨q, r, h, rd', rn, e⟩ := specDiv_loop ha hb nb hp hal hbl a.length _ [] (Nat.le_refl _) Dg.nil (by simp [Nm]) (ByIn.start a hp)
  have heq := h.eq
  rw [List.drop_zero, List.drop_zero] at heq
  refine ⟨trim q, r, by rw [trim_val]; omega, h.l1, trim_dg h.dg, trim_nm q, rd', rn, ?_⟩
  unfold spec_l1Div.f
  have c1 : 0 ≤ (a.length : Int) := by omega
  have c2 : a.length ≤ 35184372088832 := by omega
  have w : wrap64 ((a.length : Int) - 1) = (a.length : Int) - 1 := w64 (by omega) (by omega)
  simp only [if_pos c1, Int.toNat_natCast, if_pos c2, w]
  exact e

/-- There is but one quotient, and one rest. -/
theorem div_same {q r q2 r2 : List Int} {A B : Int} (h : val q * B + val r = A) (h' : val r < B) (h2 : val q2 * B + val r2 = A) (h2' : val r2 < B) (qd : Dg q) (qn : Nm q) (rd : Dg r) (rn : Nm r) (qd2 : Dg q2) (qn2 : Nm q2) (rd2 : Dg r2) (rn2 : Nm r2) : q = q2 ∧ r = r2 := by
  have r0 := val_nonneg rd
  have r20 := val_nonneg rd2
  have hq : val q = val q2 := by
    rcases Int.lt_trichotomy (val q) (val q2) with h3 | h3 | h3
    · have := Int.mul_le_mul_of_nonneg_right (show val q + 1 ≤ val q2 by omega) (show 0 ≤ B by omega)
      rw [Int.add_mul] at this
      omega
    · exact h3
    · have := Int.mul_le_mul_of_nonneg_right (show val q2 + 1 ≤ val q by omega) (show 0 ≤ B by omega)
      rw [Int.add_mul] at this
      omega
  rw [hq] at h
  exact ⟨val_inj qd qd2 qn qn2 hq, val_inj rd rd2 rn rn2 (by omega)⟩

theorem waddn {i j : Nat} (h : i ≤ 1048576) (h' : j ≤ 1048576) : wrap64 ((i : Int) + (j : Int)) = ((i + j : Nat) : Int) := by
  rw [w64 (by omega) (by omega)]
  omega

theorem mul_wrap {c o x y : Int} (c0 : 0 ≤ c) (c1 : c ≤ 65535) (o0 : 0 ≤ o) (o1 : o < 65536) (x0 : 0 ≤ x) (x1 : x < 65536) (y0 : 0 ≤ y) (y1 : y < 65536) :
    wrap64 (x * y) = x * y ∧ wrap64 (o + x * y) = o + x * y ∧ wrap64 (c + (o + x * y)) = c + (o + x * y) ∧ wrap64 (o + x * y + c) = c + (o + x * y) ∧
    Int.tmod (c + (o + x * y)) 65536 = (c + (o + x * y)) % 65536 ∧ wrap64 (Int.tdiv (c + (o + x * y)) 65536) = (c + (o + x * y)) / 65536 := by
  obtain ⟨h1, h2, h3, h4⟩ := mul_bound c0 c1 o0 o1 x0 x1 y0 y1
  generalize x * y = z at *
  refine ⟨w64 (by omega) (by omega), w64 (by omega) (by omega), w64 (by omega) (by omega), by rw [w64 (by omega) (by omega)]; omega, Int.tmod_eq_emod_of_nonneg h3, ?_⟩
  rw [Int.tdiv_eq_ediv_of_nonneg h3, w64 (by omega) (by omega)]

theorem implMul_row {a b : List Int} (ha : Dg a) (hb : Dg b) (h1 : a.length ≤ 1048576) (h2 : b.length ≤ 1048576) {i : Nat} (hi : i < a.length) :
    ∀ (d j : Nat) (o : List Int) (c : Int), b.length = j + d → MulIn a b o c i j → ∃ o', MulOut a b o' (i + 1) ∧ ∀ R, Ev (fun k => impl_natMul.l0 k b o' a (a.length : Int) ((i + 1 : Nat) : Int)) R →
      Ev (fun k => impl_natMul.l1 k b o (i : Int) (a.getD i 0) c a (a.length : Int) (i : Int) b (b.length : Int) (j : Int)) R := by
  intro d
  induction d with
  | zero =>
    intro j o c hj h
    obtain rfl : j = b.length := by omega
    have hlen := h.len
    refine ⟨_, h.leave hi, fun R hR => Ev.step (fun k => by rw [impl_natMul.l1]) ?_⟩
    simp only [if_neg (show ¬ (b.length : Int) < (b.length : Int) by omega), waddn (show i ≤ 1048576 by omega) (show b.length ≤ 1048576 by omega), if_pos (show 0 ≤ ((i + b.length : Nat) : Int) by omega),
      if_pos (show ((i + b.length : Nat) : Int) < (o.length : Int) by omega), Int.toNat_natCast, wsucc (show i ≤ 1099511627776 by omega)]
    exact hR
  | succ d ih =>
    intro j o c hj h
    have hlen := h.len
    have q1 : (j : Int) < (b.length : Int) := by omega
    have q2 : 0 ≤ (j : Int) := by omega
    have q3 : 0 ≤ ((i + j : Nat) : Int) := by omega
    have q4 : ((i + j : Nat) : Int) < (o.length : Int) := by omega
    have q5 : wrap64 ((i : Int) + (j : Int)) = ((i + j : Nat) : Int) := by exact waddn (by omega) (by omega)
    have q6 : wrap64 ((j : Int) + 1) = ((j + 1 : Nat) : Int) := by exact wsucc (by omega)
    have b1 := ha.getD i
    have b2 := hb.getD j
    have b3 := h.dg.getD (i + j)
    obtain ⟨w1, w2, w3, w4, w5, w6⟩ := mul_wrap h.c0 h.c1 b3.1 b3.2 b1.1 b1.2 b2.1 b2.2
    obtain ⟨o', ho', hr⟩ := ih (j + 1) _ _ (by omega) (h.step ha hb hi (by omega))
    refine ⟨o', ho', fun R hR => Ev.step (fun k => by rw [impl_natMul.l1]) ?_⟩
    have := hr R hR
    clear hr
    simp only [if_pos q1, if_pos q2, q5, if_pos q3, if_pos q4, rd, Int.toNat_natCast, q6, w1, w2, w3, w5, w6]
    exact this

theorem implMul_loop {a b : List Int} (ha : Dg a) (hb : Dg b) (h1 : a.length ≤ 1048576) (h2 : b.length ≤ 1048576) : ∀ (d i : Nat) (o : List Int), a.length = i + d → MulOut a b o i →
    ∃ r, val r = val a * val b ∧ Dg r ∧ r.length = a.length + b.length ∧ Ev (fun k => impl_natMul.l0 k b o a (a.length : Int) (i : Int)) (trim r) := by
  intro d
  induction d with
  | zero =>
    intro i o hi h
    obtain rfl : i = a.length := by omega
    have hlen := h.len
    refine ⟨o, h.done, h.dg, h.len, Ev.step (fun k => by rw [impl_natMul.l0]) ?_⟩
    simp only [if_neg (show ¬ (a.length : Int) < (a.length : Int) by omega)]
    exact Ev.bind (trimmed_eq o (by omega)) (Ev.now _)
  | succ d ih =>
    intro i o hi h
    obtain ⟨o', ho', hr⟩ := implMul_row ha hb h1 h2 (i := i) (by omega) b.length 0 o 0 (by omega) h.enter
    obtain ⟨r, v, g, l, e⟩ := ih (i + 1) o' (by omega) ho'
    refine ⟨r, v, g, l, Ev.step (fun k => by rw [impl_natMul.l0]) ?_⟩
    simp only [if_pos (show (i : Int) < (a.length : Int) by omega), if_pos (show 0 ≤ (i : Int) by omega), rd, Int.toNat_natCast]
    exact hr _ e

theorem implMul_eq {a b : List Int} (ha : Dg a) (hb : Dg b) (h1 : a.length ≤ 1048576) (h2 : b.length ≤ 1048576) :
    ∃ r, val r = val a * val b ∧ Dg r ∧ Nm r ∧ r.length ≤ a.length + b.length ∧ Ev (fun k => impl_natMul.f k a b) r := by
  obtain ⟨r, v, d, l, e⟩ := implMul_loop ha hb h1 h2 a.length 0 _ (by omega) (MulOut.start a b)
  have := trim_len r
  refine ⟨trim r, by rw [trim_val, v], trim_dg d, trim_nm r, by omega, ?_⟩
  unfold impl_natMul.f
  simp only [waddn h1 h2, if_pos (show 0 ≤ ((a.length + b.length : Nat) : Int) by omega), Int.toNat_natCast, if_pos (show a.length + b.length ≤ 35184372088832 by omega)]
  exact e

theorem specMul_row {a b : List Int} (ha : Dg a) (hb : Dg b) (h1 : a.length ≤ 1048576) (h2 : b.length ≤ 1048576) {i : Nat} (hi : i < a.length) :
    ∀ (d j : Nat) (o : List Int) (c : Int), b.length = j + d → MulIn a b o c i j → ∃ o', MulOut a b o' (i + 1) ∧ ∀ R, Ev (fun k => spec_l1Mul.l0 k a b o' ((i + 1 : Nat) : Int)) R →
      Ev (fun k => spec_l1Mul.l1 k a b o (i : Int) c (j : Int)) R := by
  intro d
  induction d with
  | zero =>
    intro j o c hj h
    obtain rfl : j = b.length := by omega
    have hlen := h.len
    have c0 := h.c0
    have c1 := h.c1
    have q7 : (i : Int) < (a.length : Int) := by omega
    have q8 : 0 ≤ (i : Int) := by omega
    by_cases hc : c > 0
    · refine ⟨_, h.leave hi, fun R hR => Ev.step (fun k => by rw [spec_l1Mul.l1]) ?_⟩
      have z1 : o.getD (i + b.length) 0 = 0 := h.zero _ (by omega)
      have z2 : b.getD b.length 0 = 0 := by rw [List.getD_eq_getElem?_getD, List.getElem?_eq_none (by omega)]; rfl
      simp only [if_neg (show ¬ (b.length : Int) < (b.length : Int) by omega), if_pos hc, waddn (show i ≤ 1048576 by omega) (show b.length ≤ 1048576 by omega), if_pos (show 0 ≤ ((i + b.length : Nat) : Int) by omega),
        if_pos (show ((i + b.length : Nat) : Int) < (o.length : Int) by omega), if_pos q8, if_pos q7, digit_eq _ (show 0 ≤ (b.length : Int) by omega), Option.bind_some, rd, Int.toNat_natCast, z1, z2, Int.mul_zero, Int.zero_add, wsucc (show b.length ≤ 1099511627776 by omega)]
      have w0 : wrap64 (0 : Int) = 0 := w64 (by omega) (by omega)
      have wc : wrap64 c = c := w64 (by omega) (by omega)
      have m1 : Int.tmod c 65536 = c := by rw [Int.tmod_eq_emod_of_nonneg c0]; clear wc w0; omega
      have m2 : Int.tdiv c 65536 = 0 := by rw [Int.tdiv_eq_ediv_of_nonneg c0]; clear wc w0 m1; omega
      simp only [w0, Int.zero_add, wc, m1, m2]
      clear w0 wc m1 m2
      refine Ev.step (fun k => by rw [spec_l1Mul.l1]) ?_
      simp only [if_neg (show ¬ ((b.length + 1 : Nat) : Int) < (b.length : Int) by omega), if_neg (show ¬ (0 : Int) > 0 by omega), wsucc (show i ≤ 1099511627776 by omega)]
      exact hR
    · have h0 : c = 0 := by omega
      subst h0
      have hl := h.leave hi
      have e : o.set (i + b.length) 0 = o := by
        apply List.ext_getElem (by simp)
        intro t t1 t2
        rw [List.getElem_set]
        split
        · rename_i e
          have z1 : o.getD t 0 = 0 := h.zero _ (by omega)
          rw [List.getD_eq_getElem?_getD, List.getElem?_eq_getElem t2] at z1
          exact z1.symm
        · rfl
      rw [e] at hl
      refine ⟨o, hl, fun R hR => Ev.step (fun k => by rw [spec_l1Mul.l1]) ?_⟩
      simp only [if_neg (show ¬ (b.length : Int) < (b.length : Int) by omega), if_neg hc, wsucc (show i ≤ 1099511627776 by omega)]
      exact hR
  | succ d ih =>
    intro j o c hj h
    have hlen := h.len
    have q1 : (j : Int) < (b.length : Int) := by omega
    have q2 : 0 ≤ (j : Int) := by omega
    have q3 : 0 ≤ ((i + j : Nat) : Int) := by omega
    have q4 : ((i + j : Nat) : Int) < (o.length : Int) := by omega
    have q5 : wrap64 ((i : Int) + (j : Int)) = ((i + j : Nat) : Int) := by exact waddn (by omega) (by omega)
    have q6 : wrap64 ((j : Int) + 1) = ((j + 1 : Nat) : Int) := by exact wsucc (by omega)
    have q7 : (i : Int) < (a.length : Int) := by omega
    have q8 : 0 ≤ (i : Int) := by omega
    have b1 := ha.getD i
    have b2 := hb.getD j
    have b3 := h.dg.getD (i + j)
    obtain ⟨w1, w2, w3, w4, w5, w6⟩ := mul_wrap h.c0 h.c1 b3.1 b3.2 b1.1 b1.2 b2.1 b2.2
    obtain ⟨o', ho', hr⟩ := ih (j + 1) _ _ (by omega) (h.step ha hb hi (by omega))
    refine ⟨o', ho', fun R hR => Ev.step (fun k => by rw [spec_l1Mul.l1]) ?_⟩
    have := hr R hR
    clear hr
    simp only [if_pos q1, q5, if_pos q3, if_pos q4, if_pos q8, if_pos q7, digit_eq _ q2, Option.bind_some, rd, Int.toNat_natCast, q6, w1, w2, w4, w5, w6]
    exact this

theorem specMul_loop {a b : List Int} (ha : Dg a) (hb : Dg b) (h1 : a.length ≤ 1048576) (h2 : b.length ≤ 1048576) : ∀ (d i : Nat) (o : List Int), a.length = i + d → MulOut a b o i →
    ∃ r, val r = val a * val b ∧ Dg r ∧ r.length = a.length + b.length ∧ Ev (fun k => spec_l1Mul.l0 k a b o (i : Int)) (trim r) := by
  intro d
  induction d with
  | zero =>
    intro i o hi h
    obtain rfl : i = a.length := by omega
    have hlen := h.len
    refine ⟨o, h.done, h.dg, h.len, Ev.step (fun k => by rw [spec_l1Mul.l0]) ?_⟩
    simp only [if_neg (show ¬ (a.length : Int) < (a.length : Int) by omega)]
    exact Ev.bind (norm_eq o (by omega)) (Ev.now _)
  | succ d ih =>
    intro i o hi h
    obtain ⟨o', ho', hr⟩ := specMul_row ha hb h1 h2 (i := i) (by omega) b.length 0 o 0 (by omega) h.enter
    obtain ⟨r, v, g, l, e⟩ := ih (i + 1) o' (by omega) ho'
    refine ⟨r, v, g, l, Ev.step (fun k => by rw [spec_l1Mul.l0]) ?_⟩
    simp only [if_pos (show (i : Int) < (a.length : Int) by omega)]
    exact hr _ e

theorem specMul_eq {a b : List Int} (ha : Dg a) (hb : Dg b) (h1 : a.length ≤ 1048576) (h2 : b.length ≤ 1048576) :
    ∃ r, val r = val a * val b ∧ Dg r ∧ Nm r ∧ r.length ≤ a.length + b.length ∧ Ev (fun k => spec_l1Mul.f k a b) r := by
  obtain ⟨r, v, d, l, e⟩ := specMul_loop ha hb h1 h2 a.length 0 _ (by omega) (MulOut.start a b)
  have := trim_len r
  refine ⟨trim r, by rw [trim_val, v], trim_dg d, trim_nm r, by omega, ?_⟩
  unfold spec_l1Mul.f
  simp only [waddn h1 h2, if_pos (show 0 ≤ ((a.length + b.length : Nat) : Int) by omega), Int.toNat_natCast, if_pos (show a.length + b.length ≤ 35184372088832 by omega)]
  exact e

theorem mod_of_div {q r A m : Int} (h : q * m + r = A) (r0 : 0 ≤ r) (r1 : r < m) : r = A % m := by
  rw [← h, Int.add_comm, Int.add_mul_emod_self_right, Int.emod_eq_of_lt r0 r1]

theorem val_pos {m : List Int} (hm : Dg m) (nm : Nm m) (hne : m ≠ []) : 0 < val m := by
  have h1 := val_ge hm nm hne
  have h2 := pow_pos' (m.length - 1)
  omega

theorem natMod_eq {a m : List Int} (ha : Dg a) (na : Nm a) (hm : Dg m) (nm : Nm m) (hne : m ≠ []) (h1 : a.length ≤ 1000000) (h2 : m.length ≤ 1000000) :
    ∃ r, val r = val a % val m ∧ Dg r ∧ Nm r ∧ r.length ≤ m.length ∧ Ev (fun k => impl_natMod.f k a m) r := by
  obtain ⟨q, r, v, t, qd, qn, rd', rn, ql, rl, e⟩ := natDiv_eq ha hm na nm hne h1 h2
  have r0 := val_nonneg rd'
  refine ⟨r, mod_of_div v r0 t, rd', rn, len_le_of_val hm rd' rn (by omega), ?_⟩
  unfold impl_natMod.f
  exact Ev.bind e (Ev.now _)

theorem mulMod_eq {a b m : List Int} (ha : Dg a) (hb : Dg b) (hm : Dg m) (nm : Nm m) (hne : m ≠ []) (h1 : a.length ≤ 1000) (h2 : b.length ≤ 1000) (h3 : m.length ≤ 1000) :
    ∃ p r, val r = val a * val b % val m ∧ Dg r ∧ Nm r ∧ r.length ≤ m.length ∧ Ev (fun k => impl_natMul.f k a b) p ∧ Ev (fun k => impl_natMod.f k p m) r := by
  obtain ⟨p, pv, pd, pn, pl, e1⟩ := implMul_eq ha hb (by omega) (by omega)
  obtain ⟨r, v, rd', rn, rl, e2⟩ := natMod_eq pd pn hm nm hne (by omega) (by omega)
  exact ⟨p, r, by rw [v, pv], rd', rn, rl, e1, e2⟩

theorem specMod_eq {a m : List Int} (ha : Dg a) (hm : Dg m) (nm : Nm m) (hne : m ≠ []) (h1 : a.length ≤ 1000000) (h2 : m.length ≤ 1000000) :
    ∃ q r, val r = val a % val m ∧ Dg r ∧ Nm r ∧ r.length ≤ m.length ∧ Ev (fun k => spec_l1Div.f k a m) (q, r) := by
  obtain ⟨q, r, v, t, qd, qn, rd', rn, e⟩ := specDiv_eq ha hm nm hne h1 h2
  have r0 := val_nonneg rd'
  exact ⟨q, r, mod_of_div v r0 t, rd', rn, len_le_of_val hm rd' rn (by omega), e⟩

theorem l2Mul_eq {a b m : List Int} (ha : Dg a) (hb : Dg b) (hm : Dg m) (nm : Nm m) (hne : m ≠ []) (h1 : a.length ≤ 1000) (h2 : b.length ≤ 1000) (h3 : m.length ≤ 1000) :
    ∃ r, val r = val a * val b % val m ∧ Dg r ∧ Nm r ∧ r.length ≤ m.length ∧ Ev (fun k => spec_l2Mul.f k a b m) r := by
  obtain ⟨p, pv, pd, pn, pl, e1⟩ := specMul_eq ha hb (by omega) (by omega)
  obtain ⟨q, r, v, rd', rn, rl, e2⟩ := specMod_eq pd hm nm hne (by omega) (by omega)
  refine ⟨r, by rw [v, pv], rd', rn, rl, ?_⟩
  unfold spec_l2Mul.f
  exact Ev.bind e1 (Ev.bind e2 (Ev.now _))

theorem three_eq {a b m : List Int} (h1 : a.length ≤ 1048576) (h2 : b.length ≤ 1048576) (h3 : m.length ≤ 1048576) :
    Ev (fun k => spec_l2Three.f k a b m) (natOk a && natOk b && natOk m && decide ((m.length : Int) > 0)) := by
  have oa := specNatOk_eq a (by omega)
  have ob := specNatOk_eq b (by omega)
  have om := specNatOk_eq m (by omega)
  unfold spec_l2Three.f
  refine Ev.bind oa ?_
  cases natOk a with
  | false => simpa using Ev.now false
  | true =>
    simp only [if_true, Bool.true_and]
    refine Ev.bind ob ?_
    cases natOk b with
    | false => simpa using Ev.now false
    | true =>
      simp only [if_true, Bool.true_and]
      refine Ev.bind om ?_
      cases natOk m with
      | false => simpa using Ev.now false
      | true => simpa using Ev.now (decide ((m.length : Int) > 0))

theorem one_list : Dg [1] ∧ Nm [1] ∧ val [1] = 1 := by
  refine ⟨fun d hd => ?_, by simp [Nm], by simp [val]⟩
  simp at hd
  omega

theorem isOne_eq {l : List Int} (hl : Dg l) (nl : Nm l) : impl_isOne.f l = some (decide (val l = 1)) := by
  unfold impl_isOne.f
  by_cases h : (l.length : Int) = 1
  · obtain ⟨d, rfl⟩ : ∃ d, l = [d] := List.length_eq_one_iff.1 (by omega)
    simp [rd, val]
    cases hd : decide (d = 1) <;> simp_all
  · rw [if_neg h]
    have : val l ≠ 1 := by
      intro hv
      obtain ⟨o1, o2, o3⟩ := one_list
      have := val_inj hl o1 nl o2 (by rw [hv, o3])
      subst this
      simp at h
    simp [this]

theorem nil_of_val {l : List Int} (hl : Dg l) (nl : Nm l) (h : val l = 0) : l = [] := val_zero hl nl h

theorem implModInv_loop {m : List Int} (hm : Dg m) (nm : Nm m) (hne : m ≠ []) (hml : m.length ≤ 64) (a : Int) (hm2 : 2 ≤ val m) : ∀ (n : Nat) (r s x y : List Int), (val s).toNat ≤ n → Dg r → Nm r → Dg s → Nm s → Dg x → Nm x → Dg y → Nm y →
    MoInv a (val m) (val r) (val s) (val x) (val y) → ∃ z b, Dg z ∧ Nm z ∧ InvIs a (val m) (val z) b ∧ z.length ≤ 64 ∧ Ev (fun k => impl_ModInv.l0 k m r s x y) (z, b) := by
  intro n
  induction n with
  | zero =>
    intro r s x y hn hr nr hs ns hx nx hy ny h
    have hs0 := h.s0
    obtain rfl : s = [] := nil_of_val hs ns (by omega)
    have hone := isOne_eq hr nr
    have xl : x.length ≤ m.length := len_le_of_val hm hx nx (by have := h.xm; omega)
    have hv : val ([] : List Int) = 0 := rfl
    rw [hv] at h
    by_cases h1 : val r = 1
    · refine ⟨x, true, hx, nx, h.one hm2 h1, by omega, Ev.step (fun k => by rw [impl_ModInv.l0]) ?_⟩
      simp only [List.length_nil, if_neg (show ¬ ((0 : Nat) : Int) > 0 by omega), hone, Option.bind_some, h1, decide_true, if_true]
      exact Ev.now _
    · refine ⟨[], false, Dg.nil, by simp [Nm], h.more h1, by simp, Ev.step (fun k => by rw [impl_ModInv.l0]) ?_⟩
      simp only [List.length_nil, if_neg (show ¬ ((0 : Nat) : Int) > 0 by omega), hone, Option.bind_some, h1, decide_false]
      simpa using Ev.now (([] : List Int), false)
  | succ n ih =>
    intro r s x y hn hr nr hs ns hx nx hy ny h
    by_cases hs0 : val s = 0
    · exact ih r s x y (by omega) hr nr hs ns hx nx hy ny h
    · have hsn : s ≠ [] := by rintro rfl; exact hs0 rfl
      have hp : 0 < val s := by have := h.s0; omega
      have rl : r.length ≤ m.length := len_le_of_val hm hr nr h.rm
      have sl : s.length ≤ m.length := len_le_of_val hm hs ns (by have := h.lt; have := h.rm; omega)
      have xl : x.length ≤ m.length := len_le_of_val hm hx nx (by have := h.xm; omega)
      have yl : y.length ≤ m.length := len_le_of_val hm hy ny (by have := h.ym; omega)
      obtain ⟨q, w, qv, wlt, qd, qn, wd, wn, ql, wl, e1⟩ := natDiv_eq hr hs nr ns hsn (by omega) (by omega)
      have w0 := val_nonneg wd
      have wv : val w = val r % val s := mod_of_div qv w0 wlt
      have qv' : val q = val r / val s := by
        have h2 := Int.emod_add_ediv_mul (val r) (val s)
        rw [← wv] at h2
        exact Int.eq_of_mul_eq_mul_right (by omega) (show val q * val s = val r / val s * val s by omega)
      obtain ⟨p, pv, pd, pn, pl, e2⟩ := implMul_eq qd hy (by omega) (by omega)
      obtain ⟨t, tv, td', tn, tl, e3⟩ := natMod_eq pd pn hm nm hne (by omega) (by omega)
      obtain ⟨u, uv, ud, un, ul, ul2, e4⟩ := implAdd_eq hx hm (by omega) (by omega)
      have tlt : val t < val m := by rw [tv]; exact Int.emod_lt_of_pos _ (by omega)
      have x0 := val_nonneg hx
      obtain ⟨v, vv, vd, vn, vl, e5⟩ := implSub_eq ud td' tn (by omega) (by omega)
      obtain ⟨z, zv, zd, zn, zl, e6⟩ := natMod_eq vd vn hm nm hne (by omega) (by omega)
      have st := h.step hp (q := val q) (t := val t) (z := val z) qv' (by rw [tv, pv]) (by rw [zv, vv, uv]; congr 1; omega)
      rw [← wv] at st
      obtain ⟨f, b, f1, f2, f3, f4, f5⟩ := ih s w y z (by omega) hs ns wd wn hy ny zd zn st
      refine ⟨f, b, f1, f2, f3, f4, Ev.step (fun k => by rw [impl_ModInv.l0]) ?_⟩
      have hsl := List.length_pos_iff.2 hsn
      simp only [if_pos (show (s.length : Int) > 0 by omega)]
      exact Ev.bind e1 (Ev.bind e2 (Ev.bind e3 (Ev.bind e4 (Ev.bind e5 (Ev.bind e6 f5)))))

theorem implModInv_eq {a m : List Int} (ka : natOk a = true) (km : natOk m = true) (hm2 : 2 ≤ val m) :
    ∃ z b, Dg z ∧ Nm z ∧ InvIs (val a) (val m) (val z) b ∧ z.length ≤ 64 ∧ Ev (fun k => impl_ModInv.f k a m) (z, b) := by
  obtain ⟨la, da, na⟩ := (natOk_iff a).1 ka
  obtain ⟨lm, dm, nm⟩ := (natOk_iff m).1 km
  have hne : m ≠ [] := by rintro rfl; simp [val] at hm2
  have ar := arOf (a := a) (b := m) (by omega) (by omega)
  obtain ⟨o1, o2, o3⟩ := one_list
  obtain ⟨s, sv, sd, sn, sl, e1⟩ := natMod_eq da na dm nm hne (by omega) (by omega)
  obtain ⟨z, b, f1, f2, f3, f4, f5⟩ := implModInv_loop dm nm hne lm (val a) hm2 (val s).toNat m s [] [1] (Nat.le_refl _) dm nm sd sn Dg.nil (by simp [Nm]) o1 o2 (by rw [sv, o3]; exact MoInv.start hm2)
  refine ⟨z, b, f1, f2, f3, f4, ?_⟩
  unfold impl_ModInv.f
  refine Ev.bind ar ?_
  have hl := List.length_pos_iff.2 hne
  have h1 : ¬ val m = 1 := by omega
  simp only [List.all_cons, List.all_nil, ka, km, Bool.and_true, if_true, if_neg (show ¬ (m.length : Int) = 0 by omega), isOne_eq dm nm, Option.bind_some, h1, decide_false]
  refine Ev.step (fun k => by rw [impl_ModInv.j0]) ?_
  simp only [Bool.false_eq_true, if_false]
  exact Ev.bind e1 f5

theorem cmp_one {l : List Int} (hl : Dg l) (nl : Nm l) (hll : l.length ≤ 1000) : Ev (fun k => spec_l1Compare.f k l [1]) (cmpI (val l) 1) := by
  obtain ⟨o1, o2, o3⟩ := one_list
  have := specCompare_eq hl o1 nl o2 (by omega) (by simp)
  rwa [o3] at this

theorem cmp_zero (x : Int) : cmpI x 1 = 0 ↔ x = 1 := by
  unfold cmpI
  split
  · omega
  · split <;> omega

theorem specModInv_loop {m : List Int} (hm : Dg m) (nm : Nm m) (hne : m ≠ []) (hml : m.length ≤ 64) (a : Int) (hm2 : 2 ≤ val m) : ∀ (n : Nat) (r s x y : List Int), (val s).toNat ≤ n → Dg r → Nm r → Dg s → Nm s → Dg x → Nm x → Dg y → Nm y →
    MoInv a (val m) (val r) (val s) (val x) (val y) → ∃ z b, Dg z ∧ Nm z ∧ InvIs a (val m) (val z) b ∧ z.length ≤ 64 ∧ Ev (fun k => spec_ModInv.l0 k m [1] s r x y) (z, b) := by
  intro n
  induction n with
  | zero =>
    intro r s x y hn hr nr hs ns hx nx hy ny h
    have hs0 := h.s0
    obtain rfl : s = [] := nil_of_val hs ns (by omega)
    have rl : r.length ≤ m.length := len_le_of_val hm hr nr h.rm
    have hone := cmp_one hr nr (by omega)
    have xl : x.length ≤ m.length := len_le_of_val hm hx nx (by have := h.xm; omega)
    have hv : val ([] : List Int) = 0 := rfl
    rw [hv] at h
    by_cases h1 : val r = 1
    · refine ⟨x, true, hx, nx, h.one hm2 h1, by omega, Ev.step (fun k => by rw [spec_ModInv.l0]) ?_⟩
      simp only [List.length_nil, if_neg (show ¬ ((0 : Nat) : Int) > 0 by omega)]
      refine Ev.bind hone ?_
      rw [if_pos ((cmp_zero _).2 h1)]
      exact Ev.now _
    · refine ⟨[], false, Dg.nil, by simp [Nm], h.more h1, by simp, Ev.step (fun k => by rw [spec_ModInv.l0]) ?_⟩
      simp only [List.length_nil, if_neg (show ¬ ((0 : Nat) : Int) > 0 by omega)]
      refine Ev.bind hone ?_
      rw [if_neg (fun h => h1 ((cmp_zero _).1 h))]
      exact Ev.now _
  | succ n ih =>
    intro r s x y hn hr nr hs ns hx nx hy ny h
    by_cases hs0 : val s = 0
    · exact ih r s x y (by omega) hr nr hs ns hx nx hy ny h
    · have hsn : s ≠ [] := by rintro rfl; exact hs0 rfl
      have hp : 0 < val s := by have := h.s0; omega
      have rl : r.length ≤ m.length := len_le_of_val hm hr nr h.rm
      have sl : s.length ≤ m.length := len_le_of_val hm hs ns (by have := h.lt; have := h.rm; omega)
      have xl : x.length ≤ m.length := len_le_of_val hm hx nx (by have := h.xm; omega)
      have yl : y.length ≤ m.length := len_le_of_val hm hy ny (by have := h.ym; omega)
      obtain ⟨q, w, qv, wlt, qd, qn, wd, wn, e1⟩ := specDiv_eq hr hs ns hsn (by omega) (by omega)
      have w0 := val_nonneg wd
      have wv : val w = val r % val s := mod_of_div qv w0 wlt
      have qv' : val q = val r / val s := by
        have h2 := Int.emod_add_ediv_mul (val r) (val s)
        rw [← wv] at h2
        exact Int.eq_of_mul_eq_mul_right (by omega) (show val q * val s = val r / val s * val s by omega)
      have ql : q.length ≤ m.length := by
        have h2 := val_nonneg qd
        have h3 : val q * 1 ≤ val q * val s := Int.mul_le_mul_of_nonneg_left (by omega) h2
        exact len_le_of_val hm qd qn (by have := h.rm; omega)
      obtain ⟨t, tv, td', tn, tl, e2⟩ := l2Mul_eq qd hy hm nm hne (by omega) (by omega) (by omega)
      have tlt : val t < val m := by rw [tv]; exact Int.emod_lt_of_pos _ (by omega)
      obtain ⟨u, uv, ud, un, ul, e3⟩ := specSub_eq hm td' tn (by omega) (by omega)
      obtain ⟨v, vv, vd, vn, e4⟩ := specAdd_eq hx ud (by omega) (by omega)
      have vl : v.length ≤ m.length + 1 := by
        have hm1 : Dg (m ++ [1]) := hm.snoc (by omega) (by omega)
        have h2 := val_snoc m 1
        have h3 := val_lt hm
        have h4 := val_nonneg td'
        have h5 := h.xm
        have := len_le_of_val hm1 vd vn (by omega)
        simpa using this
      obtain ⟨zq, z, zv, zd, zn, zl, e5⟩ := specMod_eq vd hm nm hne (by omega) (by omega)
      have st := h.step hp (q := val q) (t := val t) (z := val z) qv' tv (by rw [zv, vv, uv])
      rw [← wv] at st
      obtain ⟨f, b, f1, f2, f3, f4, f5⟩ := ih s w y z (by omega) hs ns wd wn hy ny zd zn st
      refine ⟨f, b, f1, f2, f3, f4, Ev.step (fun k => by rw [spec_ModInv.l0]) ?_⟩
      have hsl := List.length_pos_iff.2 hsn
      simp only [if_pos (show (s.length : Int) > 0 by omega)]
      exact Ev.bind e1 (Ev.bind e2 (Ev.bind e3 (Ev.bind e4 (Ev.bind e5 f5))))

theorem specModInv_eq {a m : List Int} (ka : natOk a = true) (km : natOk m = true) (hm2 : 2 ≤ val m) :
    ∃ z b, Dg z ∧ Nm z ∧ InvIs (val a) (val m) (val z) b ∧ z.length ≤ 64 ∧ Ev (fun k => spec_ModInv.f k a m) (z, b) := by
  obtain ⟨la, da, na⟩ := (natOk_iff a).1 ka
  obtain ⟨lm, dm, nm⟩ := (natOk_iff m).1 km
  have hne : m ≠ [] := by rintro rfl; simp [val] at hm2
  have th := three_eq (a := a) (b := [1]) (m := m) (by omega) (by simp) (by omega)
  have k1 : natOk [1] = true := by decide
  have hl := List.length_pos_iff.2 hne
  rw [ka, km, k1, decide_eq_true (show (m.length : Int) > 0 by omega)] at th
  obtain ⟨o1, o2, o3⟩ := one_list
  obtain ⟨sq, s, sv, sd, sn, sl, e1⟩ := specMod_eq da dm nm hne (by omega) (by omega)
  obtain ⟨z, b, f1, f2, f3, f4, f5⟩ := specModInv_loop dm nm hne lm (val a) hm2 (val s).toNat m s [] [1] (Nat.le_refl _) dm nm sd sn Dg.nil (by simp [Nm]) o1 o2 (by rw [sv, o3]; exact MoInv.start hm2)
  refine ⟨z, b, f1, f2, f3, f4, ?_⟩
  unfold spec_ModInv.f
  simp only [Option.bind_some]
  refine Ev.bind th ?_
  simp only [Bool.and_true, if_true]
  refine Ev.bind (cmp_one dm nm (by omega)) ?_
  have h0 : (cmpI (val m) 1 == 0) = false := by
    have := cmp_zero (val m)
    simp only [beq_eq_false_iff_ne]
    intro h
    have := this.1 h
    omega
  rw [h0]
  refine Ev.step (fun k => by rw [spec_ModInv.j0]) ?_
  simp only [Bool.false_eq_true, if_false]
  refine Ev.bind e1 ?_
  simp only [Option.bind_some, List.length_nil, Nat.zero_add, if_pos (show m.length < 17592186044416 by omega), List.nil_append]
  exact f5

theorem val_two {m : List Int} (hm : Dg m) (nm : Nm m) (hne : m ≠ []) (h1 : val m ≠ 1) : 2 ≤ val m := by
  have := val_pos hm nm hne
  omega

theorem both (a b : List Int) (h1 : a.length ≤ 1048576) (h2 : b.length ≤ 1048576) :
    ∃ r bb, r.length ≤ 1048577 ∧ Ev (fun k => spec_ModInv.f k a b) (r, bb) ∧ Ev (fun k => impl_ModInv.f k a b) (r, bb) := by
  by_cases k : natOk a = true ∧ natOk b = true
  · obtain ⟨ka, kb⟩ := k
    obtain ⟨la, da, na⟩ := (natOk_iff a).1 ka
    obtain ⟨lb, db, nb⟩ := (natOk_iff b).1 kb
    by_cases h : 2 ≤ val b
    · obtain ⟨z, c, f1, f2, f3, f4, f5⟩ := implModInv_eq ka kb h
      obtain ⟨z', c', g1, g2, g3, g4, g5⟩ := specModInv_eq ka kb h
      obtain ⟨hv, rfl⟩ := f3.unique g3
      obtain rfl := val_inj f1 g1 f2 g2 hv
      exact ⟨z, c, by omega, g5, f5⟩
    · have th := three_eq (a := a) (b := [1]) (m := b) (by omega) (by simp) (by omega)
      have ar := arOf (a := a) (b := b) (by omega) (by omega)
      have k1 : natOk [1] = true := by decide
      rw [ka, kb, k1] at th
      have hj : Ev (fun k => impl_ModInv.j0 k a b true) (([] : List Int), false) := by
        refine Ev.step (fun k => by rw [impl_ModInv.j0]) ?_
        simp only [if_true]
        exact Ev.now _
      have hs : Ev (fun k => spec_ModInv.j0 k a b [1] true) (([] : List Int), false) := by
        refine Ev.step (fun k => by rw [spec_ModInv.j0]) ?_
        simp only [if_true]
        exact Ev.now _
      refine ⟨[], false, by simp, ?_, ?_⟩
      · unfold spec_ModInv.f
        simp only [Option.bind_some]
        refine Ev.bind th ?_
        by_cases hl : (b.length : Int) > 0
        · have hne : b ≠ [] := by rintro rfl; simp at hl
          have hv : val b = 1 := by
            have := val_pos db nb hne
            omega
          simp only [hl, decide_true, Bool.and_true, if_true]
          refine Ev.bind (cmp_one db nb (by omega)) ?_
          have h0 : (cmpI (val b) 1 == 0) = true := by
            rw [beq_iff_eq]
            exact (cmp_zero _).2 hv
          rw [h0]
          exact hs
        · simp only [hl, decide_false]
          simpa using hs
      · unfold impl_ModInv.f
        refine Ev.bind ar ?_
        simp only [List.all_cons, List.all_nil, ka, kb, Bool.and_true, if_true]
        by_cases hl : (b.length : Int) = 0
        · simp only [if_pos hl]
          exact hj
        · have hne : b ≠ [] := by rintro rfl; simp at hl
          have hv : val b = 1 := by
            have := val_pos db nb hne
            omega
          simp only [if_neg hl, isOne_eq db nb, Option.bind_some, hv, decide_true]
          exact hj
  · have ar := arOf (a := a) (b := b) (by omega) (by omega)
    have th := three_eq (a := a) (b := [1]) (m := b) (by omega) (by simp) (by omega)
    have hj : Ev (fun k => impl_ModInv.j0 k a b true) (([] : List Int), false) := by
      refine Ev.step (fun k => by rw [impl_ModInv.j0]) ?_
      simp only [if_true]
      exact Ev.now _
    have hs : Ev (fun k => spec_ModInv.j0 k a b [1] true) (([] : List Int), false) := by
      refine Ev.step (fun k => by rw [spec_ModInv.j0]) ?_
      simp only [if_true]
      exact Ev.now _
    have hf : (natOk a && natOk [1] && natOk b && decide ((b.length : Int) > 0)) = false := by
      cases ka : natOk a with
      | false => rfl
      | true =>
        cases kb : natOk b with
        | false => simp
        | true => exact absurd ⟨ka, kb⟩ k
    rw [hf] at th
    refine ⟨[], false, by simp, ?_, ?_⟩
    · unfold spec_ModInv.f
      simp only [Option.bind_some]
      refine Ev.bind th ?_
      simpa using hs
    · unfold impl_ModInv.f
      refine Ev.bind ar ?_
      rw [ok2 k]
      simpa using hj
theorem FnExactModInv : laws_FnExactModInv.Pure := by
  intro a b _ _ _ _ _ _
  refine Ev.rounds (r := true) ?_
  unfold laws_FnExactModInv.f
  by_cases h : (a.length : Int) > 1048576
  · simp only [if_pos h]; exact Ev.now _
  by_cases h' : (b.length : Int) > 1048576
  · simp only [if_neg h, if_pos h']; exact Ev.now _
  simp only [if_neg h, if_neg h']
  have ta := toIntS_eq a (by omega)
  have tb := toIntS_eq b (by omega)
  have ea := eqIntS_eq a (by omega)
  have eb := eqIntS_eq b (by omega)
  obtain ⟨r, bb, hl, r1, r2⟩ := both a b (by omega) (by omega)
  have er := eqIntS_eq r (by omega)
  have ma := markIntS_eq a (m0 := 1) (by omega) (by omega) (by omega)
  have mb := markIntS_eq b (m0 := 1 + a.length) (by omega) (by omega) (by omega)
  have mr := markIntS_eq r (m0 := 1) (by omega) (by omega) (by omega)
  have hr := heldIntS_eq r.length (m0 := 1) (by omega) (by omega) (by omega)
  have f1 : ¬ (1 : Int) + a.length + b.length < 0 := by omega
  have f2 : ¬ (1 : Int) + r.length < 0 := by omega
  refine Ev.bind ta (Ev.bind tb (Ev.bind r1 (Ev.bind ta (Ev.bind tb (Ev.bind r2 (Ev.bind er ?_))))))
  simp only [if_true, bne_self_eq_false]
  refine Ev.step (fun k => by rw [laws_FnExactModInv.j0]) ?_
  simp only [Bool.false_eq_true, if_false]
  refine Ev.bind ta (Ev.bind ea ?_)
  simp only [if_true]
  refine Ev.bind tb (Ev.bind eb ?_)
  simp only [if_true]
  refine Ev.bind ma (Ev.bind mb ?_)
  simp only [if_neg f1]
  refine Ev.bind er ?_
  simp only [if_true, bne_self_eq_false]
  refine Ev.step (fun k => by rw [laws_FnExactModInv.j1]) ?_
  simp only [Bool.false_eq_true, if_false]
  refine Ev.bind mr (Ev.bind hr ?_)
  simp only [if_neg f2, if_true]
  refine Ev.bind ta (Ev.bind tb (Ev.bind r2 (Ev.bind er ?_)))
  simp only [if_true, bne_self_eq_false]
  refine Ev.step (fun k => by rw [laws_FnExactModInv.j2]) ?_
  simp only [Bool.false_eq_true, if_false]
  refine Ev.bind hr ?_
  simp only [if_neg f2, if_true]
  exact Ev.now _


end Go.Proofs.Ytehdmpfeddieoaa.Pure
