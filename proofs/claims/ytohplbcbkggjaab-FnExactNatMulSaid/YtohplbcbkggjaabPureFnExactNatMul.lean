/- The law FnExactNatMul answers true at all digits: both products are the digits of the product of what both are worth. -/
import Derived.Test.YtohplbcbkggjaabPFnExactNatMulx4
import Derived.Test.YtohplbcbkggjaabMDig
namespace Go.Proofs.Ytohplbcbkggjaab.Pure
open Go.RowKit Go.Proofs.Ytohplbcbkggjaab.PFnExactNatMul Go.Proofs.YtohplbcbkggjaabW.PrintWords Go.Proofs.YtohplbcbkggjaabW.PrintLast Go.Proofs.Ytohplbcbkggjaab.Plain

set_option linter.unusedVariables false
set_option linter.unusedSimpArgs false

theorem w64 {n : Int} (h : -9223372036854775808 ≤ n) (h' : n ≤ 9223372036854775807) : wrap64 n = n := by
  unfold wrap64
  omega

theorem wf64 {n : Int} (h : (Lit.int .i64 n).wf = true) : -9223372036854775808 ≤ n ∧ n ≤ 9223372036854775807 := by
  simpa [Lit.wf, IntKind.min, IntKind.max, IntKind.signed, IntKind.bits] using h

theorem wsucc {i : Nat} (h : i ≤ 1099511627776) : wrap64 ((i : Int) + 1) = ((i + 1 : Nat) : Int) := by
  rw [w64 (by omega) (by omega)]
  omega

theorem wpred {i : Nat} (h : i ≤ 1099511627776) : wrap64 (((i + 1 : Nat) : Int) - 1) = (i : Int) := by
  rw [w64 (by omega) (by omega)]
  omega

theorem in_eq (n a b : Int) : spec_l1In.f n a b = some (decide (a ≤ n ∧ n ≤ b)) := by
  unfold spec_l1In.f
  by_cases h : n ≥ a
  · rw [if_pos h]
    have : a ≤ n := h
    simp [this]
  · rw [if_neg h]
    have : ¬ a ≤ n := h
    simp [this]

theorem within_eq (n a b : Int) : impl_within.f n a b = some (decide (a ≤ n ∧ n ≤ b)) := by
  unfold impl_within.f
  by_cases h : n ≥ a
  · rw [if_pos h]
    have : a ≤ n := h
    simp [this]
  · rw [if_neg h]
    have : ¬ a ≤ n := h
    simp [this]

theorem toIntS_loop (l : List Int) (hl : l.length ≤ 1099511627776) : ∀ (d : Nat) (x : List Int) (i : Int), 0 ≤ i → (l.length : Int) - i = d → x.length = l.length → (∀ j : Nat, (j : Int) < i → x.getD j 0 = l.getD j 0) →
    Ev (fun k => laws_toIntS.l0 k l x i) l := by
  intro d
  induction d with
  | zero =>
    intro x i h0 hd hx he
    refine Ev.step (fun k => by rw [laws_toIntS.l0]) ?_
    simp only [if_neg (show ¬ i < (l.length : Int) by omega)]
    have : x = l := by
      apply List.ext_getElem hx
      intro j h1 h2
      have := he j (by omega)
      rwa [List.getD_eq_getElem?_getD, List.getD_eq_getElem?_getD, List.getElem?_eq_getElem h1, List.getElem?_eq_getElem h2] at this
    rw [this]
    exact Ev.now _
  | succ d ih =>
    intro x i h0 hd hx he
    refine Ev.step (fun k => by rw [laws_toIntS.l0]) ?_
    simp only [if_pos (show i < (l.length : Int) by omega), if_pos h0, hx]
    rw [w64 (n := i + 1) (by omega) (by omega)]
    refine ih _ (i + 1) (by omega) (by omega) (by simpa using hx) (fun j hj => ?_)
    unfold rd
    rw [List.getD_eq_getElem?_getD, List.getElem?_set]
    by_cases hji : i.toNat = j
    · subst hji
      rw [if_pos rfl, if_pos (by omega)]
      rfl
    · rw [if_neg hji, ← List.getD_eq_getElem?_getD]
      exact he j (by omega)

theorem toIntS_eq (l : List Int) (hl : l.length ≤ 1099511627776) : Ev (fun k => laws_toIntS.f k l) l := by
  unfold laws_toIntS.f
  simp only [if_pos (show 0 ≤ (l.length : Int) by omega), if_pos (show ((l.length : Int)).toNat ≤ 35184372088832 by omega)]
  exact toIntS_loop l hl l.length _ 0 (by omega) (by omega) (by simp) (fun j hj => by omega)

theorem eqIntS_loop (l : List Int) (hl : l.length ≤ 1099511627776) : ∀ (d : Nat) (i : Int), 0 ≤ i → (l.length : Int) - i = d → Ev (fun k => laws_eqIntS.l0 k l l i) true := by
  intro d
  induction d with
  | zero =>
    intro i h0 hd
    refine Ev.step (fun k => by rw [laws_eqIntS.l0]) ?_
    simp only [if_neg (show ¬ i < (l.length : Int) by omega)]
    exact Ev.now _
  | succ d ih =>
    intro i h0 hd
    refine Ev.step (fun k => by rw [laws_eqIntS.l0]) ?_
    simp only [if_pos (show i < (l.length : Int) by omega), if_pos h0, if_true]
    rw [w64 (n := i + 1) (by omega) (by omega)]
    exact ih (i + 1) (by omega) (by omega)

theorem eqIntS_eq (l : List Int) (hl : l.length ≤ 1099511627776) : Ev (fun k => laws_eqIntS.f k l l) true := by
  unfold laws_eqIntS.f
  simp only [if_true]
  exact eqIntS_loop l hl l.length 0 (by omega) (by omega)

theorem markIntS_loop (n : Nat) (m0 : Int) (hm : 1 ≤ m0) (hm' : m0 ≤ 1099511627776) (hl : n ≤ 1099511627776) : ∀ (d : Nat) (x : List Int) (i : Int), 0 ≤ i → (n : Int) - i = d → x.length = n →
    (∀ j : Nat, (j : Int) < i → x.getD j 0 = m0 + j) → Ev (fun k => laws_markIntS.l0 k x (m0 + i) i) (m0 + n, (List.range n).map (fun j => m0 + ((j : Nat) : Int))) := by
  intro d
  induction d with
  | zero =>
    intro x i h0 hd hx he
    refine Ev.step (fun k => by rw [laws_markIntS.l0]) ?_
    simp only [hx, if_neg (show ¬ i < (n : Int) by omega)]
    have : x = (List.range n).map (fun j => m0 + ((j : Nat) : Int)) := by
      apply List.ext_getElem (by simpa using hx)
      intro j h1 h2
      have := he j (by omega)
      rw [List.getD_eq_getElem?_getD, List.getElem?_eq_getElem h1] at this
      simpa using this
    rw [this, show m0 + i = m0 + (n : Int) by omega]
    exact Ev.now _
  | succ d ih =>
    intro x i h0 hd hx he
    refine Ev.step (fun k => by rw [laws_markIntS.l0]) ?_
    simp only [hx, if_pos (show i < (n : Int) by omega), if_pos h0]
    rw [w64 (n := i + 1) (by omega) (by omega), w64 (n := m0 + i + 1) (by omega) (by omega), show m0 + i + 1 = m0 + (i + 1) by omega]
    refine ih _ (i + 1) (by omega) (by omega) (by simpa using hx) (fun j hj => ?_)
    rw [List.getD_eq_getElem?_getD, List.getElem?_set]
    by_cases hji : i.toNat = j
    · subst hji
      rw [if_pos rfl, if_pos (by omega)]
      simp only [Option.getD_some]
      omega
    · rw [if_neg hji, ← List.getD_eq_getElem?_getD]
      exact he j (by omega)

def marked (n : Nat) (m0 : Int) : List Int := (List.range n).map (fun j => m0 + ((j : Nat) : Int))

theorem markIntS_eq (l : List Int) {m0 : Int} (hm : 1 ≤ m0) (hm' : m0 ≤ 1099511627776) (hl : l.length ≤ 1099511627776) : Ev (fun k => laws_markIntS.f k l m0) (m0 + l.length, marked l.length m0) := by
  unfold laws_markIntS.f
  have := markIntS_loop l.length m0 hm hm' hl l.length l 0 (by omega) (by omega) rfl (fun j hj => by omega)
  rwa [Int.add_zero] at this

theorem heldIntS_loop (n : Nat) (m0 : Int) (hm : 1 ≤ m0) (hm' : m0 ≤ 1099511627776) (hl : n ≤ 1099511627776) : ∀ (d : Nat) (i : Int), 0 ≤ i → (n : Int) - i = d →
    Ev (fun k => laws_heldIntS.l0 k (marked n m0) (m0 + i) i) (m0 + n) := by
  have hlen : (marked n m0).length = n := by simp [marked]
  intro d
  induction d with
  | zero =>
    intro i h0 hd
    refine Ev.step (fun k => by rw [laws_heldIntS.l0]) ?_
    simp only [hlen, if_neg (show ¬ i < (n : Int) by omega)]
    rw [show m0 + i = m0 + (n : Int) by omega]
    exact Ev.now _
  | succ d ih =>
    intro i h0 hd
    refine Ev.step (fun k => by rw [laws_heldIntS.l0]) ?_
    have hr : rd (marked n m0) i = m0 + i := by
      unfold rd marked
      rw [List.getD_eq_getElem?_getD, List.getElem?_map, List.getElem?_range (by omega)]
      simp only [Option.map_some, Option.getD_some]
      omega
    simp only [hlen, if_pos (show i < (n : Int) by omega), if_pos h0, hr, if_true]
    rw [w64 (n := i + 1) (by omega) (by omega), w64 (n := m0 + i + 1) (by omega) (by omega), show m0 + i + 1 = m0 + (i + 1) by omega]
    exact ih (i + 1) (by omega) (by omega)

theorem heldIntS_eq (n : Nat) {m0 : Int} (hm : 1 ≤ m0) (hm' : m0 ≤ 1099511627776) (hl : n ≤ 1099511627776) : Ev (fun k => laws_heldIntS.f k (marked n m0) m0) (m0 + n) := by
  unfold laws_heldIntS.f
  have := heldIntS_loop n m0 hm hm' hl n 0 (by omega) (by omega)
  rwa [Int.add_zero] at this

theorem specNatOk_loop (l : List Int) (hl : l.length ≤ 1099511627776) : ∀ (d : Nat) (i : Int), 0 ≤ i → (l.length : Int) - i = d →
    Ev (fun k => spec_NatOk.l0 k l i) ((l.drop i.toNat).all (fun d => decide (0 ≤ d ∧ d ≤ 65535)) && decide (l.length ≤ 64) && (l.isEmpty || (l.getD (l.length - 1) 0 != 0))) := by
  intro d
  induction d with
  | zero =>
    intro i h0 hd
    refine Ev.step (fun k => by rw [spec_NatOk.l0]) ?_
    simp only [if_neg (show ¬ i < (l.length : Int) by omega)]
    rw [List.drop_eq_nil_of_le (by omega)]
    by_cases h1 : (l.length : Int) ≤ 64
    · simp only [if_pos h1, show l.length ≤ 64 by omega]
      by_cases h2 : (l.length : Int) = 0
      · obtain rfl : l = [] := List.length_eq_zero_iff.1 (by omega)
        simpa using Ev.now true
      · have e : wrap64 ((l.length : Int) - 1) = (l.length : Int) - 1 := w64 (by omega) (by omega)
        have hne : l.isEmpty = false := by cases l with | nil => simp at h2 | cons a l => rfl
        simp only [if_neg h2, e, if_pos (show 0 ≤ (l.length : Int) - 1 by omega), if_pos (show (l.length : Int) - 1 < l.length by omega), hne, rd, show ((l.length : Int) - 1).toNat = l.length - 1 by omega]
        simpa using Ev.now _
    · simp only [if_neg h1, show ¬ l.length ≤ 64 by omega]
      simpa using Ev.now false
  | succ d ih =>
    intro i h0 hd
    refine Ev.step (fun k => by rw [spec_NatOk.l0]) ?_
    have hi : i.toNat < l.length := by omega
    rw [List.drop_eq_getElem_cons hi, List.all_cons]
    have hr : rd l i = l[i.toNat] := by simp [rd, List.getD_eq_getElem?_getD, List.getElem?_eq_getElem hi]
    simp only [if_pos (show i < (l.length : Int) by omega), if_pos h0, in_eq, hr, Option.bind_some]
    by_cases h1 : 0 ≤ l[i.toNat] ∧ l[i.toNat] ≤ 65535
    · simp only [h1.1, h1.2, and_self, decide_true, if_true, Bool.true_and]
      rw [w64 (by omega) (by omega)]
      have := ih (i + 1) (by omega) (by omega)
      rwa [show (i + 1).toNat = i.toNat + 1 by omega] at this
    · simp only [h1, decide_false, Bool.false_and]
      simpa using Ev.now false

theorem specNatOk_eq (l : List Int) (hl : l.length ≤ 1099511627776) : Ev (fun k => spec_NatOk.f k l) (natOk l) := by
  unfold spec_NatOk.f natOk
  have := specNatOk_loop l hl l.length 0 (by omega) (by omega)
  rw [Int.toNat_zero, List.drop_zero] at this
  rwa [Bool.and_comm (decide (l.length ≤ 64))]

theorem allWithin_loop (l : List Int) (a b : Int) (hl : l.length ≤ 1099511627776) : ∀ (d : Nat) (i : Int), 0 ≤ i → (l.length : Int) - i = d →
    Ev (fun k => impl_allWithin.l0 k a b l (l.length : Int) i) ((l.drop i.toNat).all (fun d => decide (a ≤ d ∧ d ≤ b))) := by
  intro d
  induction d with
  | zero =>
    intro i h0 hd
    refine Ev.step (fun k => by rw [impl_allWithin.l0]) ?_
    simp only [if_neg (show ¬ i < (l.length : Int) by omega)]
    rw [List.drop_eq_nil_of_le (by omega)]
    exact Ev.now _
  | succ d ih =>
    intro i h0 hd
    refine Ev.step (fun k => by rw [impl_allWithin.l0]) ?_
    have hi : i.toNat < l.length := by omega
    rw [List.drop_eq_getElem_cons hi, List.all_cons]
    have hr : rd l i = l[i.toNat] := by simp [rd, List.getD_eq_getElem?_getD, List.getElem?_eq_getElem hi]
    simp only [if_pos (show i < (l.length : Int) by omega), if_pos h0, within_eq, hr, Option.bind_some]
    by_cases h1 : a ≤ l[i.toNat] ∧ l[i.toNat] ≤ b
    · simp only [h1.1, h1.2, and_self, decide_true, if_true, Bool.true_and]
      rw [w64 (by omega) (by omega)]
      have := ih (i + 1) (by omega) (by omega)
      rwa [show (i + 1).toNat = i.toNat + 1 by omega] at this
    · simp only [h1, decide_false, Bool.false_and]
      simpa using Ev.now false

theorem allWithin_eq (l : List Int) (a b : Int) (hl : l.length ≤ 1099511627776) : Ev (fun k => impl_allWithin.f k l a b) (l.all (fun d => decide (a ≤ d ∧ d ≤ b))) := by
  unfold impl_allWithin.f
  have := allWithin_loop l a b hl l.length 0 (by omega) (by omega)
  rwa [Int.toNat_zero, List.drop_zero] at this

theorem implNatOk_eq (l : List Int) (hl : l.length ≤ 1099511627776) : Ev (fun k => impl_NatOk.f k l) (natOk l) := by
  unfold impl_NatOk.f natOk
  by_cases h1 : (l.length : Int) ≤ 64
  · simp only [if_pos h1, show l.length ≤ 64 by omega, decide_true, Bool.true_and]
    refine Ev.bind (allWithin_eq l 0 65535 hl) ?_
    by_cases h3 : l.all (fun d => decide (0 ≤ d ∧ d ≤ 65535)) = true
    · simp only [h3, if_true, Bool.true_and]
      by_cases h2 : (l.length : Int) = 0
      · obtain rfl : l = [] := List.length_eq_zero_iff.1 (by omega)
        simpa using Ev.now true
      · have e : wrap64 ((l.length : Int) - 1) = (l.length : Int) - 1 := w64 (by omega) (by omega)
        have hne : l.isEmpty = false := by cases l with | nil => simp at h2 | cons a l => rfl
        simp only [if_neg h2, e, if_pos (show 0 ≤ (l.length : Int) - 1 by omega), if_pos (show (l.length : Int) - 1 < l.length by omega), hne, rd, show ((l.length : Int) - 1).toNat = l.length - 1 by omega]
        simpa using Ev.now _
    · simp only [h3, Bool.false_and]
      simpa using Ev.now false
  · simp only [if_neg h1, show ¬ l.length ≤ 64 by omega]
    simpa using Ev.now false

theorem indexFunc_loop (ls : List (List Int)) (hl : ls.length ≤ 1048576) (hs : ∀ l ∈ ls, l.length ≤ 1099511627776) : ∀ (d : Nat) (i : Int), 0 ≤ i → (ls.length : Int) - i = d →
    ∃ r, Ev (fun k => slices_IndexFunc_int_int.l0 k ls (ls.length : Int) i) r ∧ (0 ≤ r ↔ (ls.drop i.toNat).all natOk = false) := by
  intro d
  induction d with
  | zero =>
    intro i h0 hd
    refine ⟨-1, Ev.step (fun k => by rw [slices_IndexFunc_int_int.l0]) ?_, ?_⟩
    · simp only [if_neg (show ¬ i < (ls.length : Int) by omega)]
      exact Ev.now _
    · rw [List.drop_eq_nil_of_le (by omega)]
      simp
  | succ d ih =>
    intro i h0 hd
    have hi : i.toNat < ls.length := by omega
    have hr : rd_L1 ls i = ls[i.toNat] := by
      simp [rd_L1, List.getD_eq_getElem?_getD, List.getElem?_eq_getElem hi]
    rw [List.drop_eq_getElem_cons hi, List.all_cons]
    have hk := implNatOk_eq ls[i.toNat] (hs _ (List.getElem_mem hi))
    have hc : Ev (fun k => impl_areNats_1.f k ls[i.toNat]) (!natOk ls[i.toNat]) := by
      unfold impl_areNats_1.f
      exact Ev.bind hk (Ev.now _)
    cases hb : natOk ls[i.toNat] with
    | false =>
      rw [hb] at hc
      refine ⟨i, Ev.step (fun k => by rw [slices_IndexFunc_int_int.l0]) ?_, by simp [h0]⟩
      simp only [if_pos (show i < (ls.length : Int) by omega), if_pos h0, hr]
      refine Ev.bind hc ?_
      simpa using Ev.now i
    | true =>
      rw [hb] at hc
      obtain ⟨r, hr', he⟩ := ih (i + 1) (by omega) (by omega)
      refine ⟨r, Ev.step (fun k => by rw [slices_IndexFunc_int_int.l0]) ?_, ?_⟩
      · simp only [if_pos (show i < (ls.length : Int) by omega), if_pos h0, hr]
        refine Ev.bind hc ?_
        rw [w64 (n := i + 1) (by omega) (by omega)]
        simpa using hr'
      · rw [he, show (i + 1).toNat = i.toNat + 1 by omega]
        simp

theorem areNats_eq (ls : List (List Int)) (hl : ls.length ≤ 1048576) (hs : ∀ l ∈ ls, l.length ≤ 1099511627776) : Ev (fun k => impl_areNats.f k ls) (ls.all natOk) := by
  obtain ⟨r, hr, he⟩ := indexFunc_loop ls hl hs ls.length 0 (by omega) (by omega)
  unfold impl_areNats.f slices_ContainsFunc_int_int.f slices_IndexFunc_int_int.f
  refine Ev.bind (Ev.bind hr (Ev.now _)) ?_
  have : (!decide (r ≥ 0)) = ls.all natOk := by
    rw [Int.toNat_zero, List.drop_zero] at he
    cases hb : ls.all natOk with
    | true => rw [hb] at he; simp at he; simp; omega
    | false => rw [hb] at he; simp at he; simp; omega
  rw [this]
  exact Ev.now _

theorem ok2 {a b : List Int} (k : ¬ (natOk a = true ∧ natOk b = true)) : [a, b].all natOk = false := by
  simp only [List.all_cons, List.all_nil, Bool.and_true]
  cases ka : natOk a with
  | false => rfl
  | true =>
    cases kb : natOk b with
    | true => exact absurd ⟨ka, kb⟩ k
    | false => rfl

theorem arOf {a b : List Int} (h1 : a.length ≤ 1048576) (h2 : b.length ≤ 1048576) : Ev (fun k => impl_areNats.f k [a, b]) ([a, b].all natOk) :=
  areNats_eq [a, b] (by simp) (by intro l hl; simp at hl; rcases hl with rfl | rfl <;> omega)

theorem trimmed_loop (l : List Int) (hl : l.length ≤ 1099511627776) : ∀ (n : Nat), n ≤ l.length → Ev (fun k => impl_trimmed.l0 k l (n : Int)) (trim (l.take n)) := by
  intro n
  induction n with
  | zero =>
    intro _
    refine Ev.step (fun k => by rw [impl_trimmed.l0]) ?_
    simp only [if_neg (show ¬ ((0 : Nat) : Int) > 0 by omega), if_pos (show 0 ≤ ((0 : Nat) : Int) by omega), if_pos (show ((0 : Nat) : Int) ≤ (l.length : Int) by omega)]
    simpa [trim] using Ev.now ([] : List Int)
  | succ n ih =>
    intro hn
    refine Ev.step (fun k => by rw [impl_trimmed.l0]) ?_
    rw [take_snoc (show n < l.length by omega)]
    simp only [if_pos (show ((n + 1 : Nat) : Int) > 0 by omega), wpred (show n ≤ 1099511627776 by omega), if_pos (show 0 ≤ (n : Int) by omega), if_pos (show (n : Int) < (l.length : Int) by omega), rd, Int.toNat_natCast]
    by_cases h : l.getD n 0 = 0
    · simp only [h, if_true, trim_snoc_zero]
      exact ih (by omega)
    · simp only [if_neg h, if_pos (show 0 ≤ ((n + 1 : Nat) : Int) by omega), if_pos (show ((n + 1 : Nat) : Int) ≤ (l.length : Int) by omega), trim_snoc _ h, take_snoc (show n < l.length by omega)]
      exact Ev.now _

theorem trimmed_eq (l : List Int) (hl : l.length ≤ 1099511627776) : Ev (fun k => impl_trimmed.f k l) (trim l) := by
  have := trimmed_loop l hl l.length (Nat.le_refl _)
  rw [List.take_length] at this
  exact this

theorem norm_loop (l : List Int) (hl : l.length ≤ 1099511627776) : ∀ (n : Nat), n ≤ l.length → Ev (fun k => spec_l1Norm.l0 k l (n : Int)) (trim (l.take n)) := by
  intro n
  induction n with
  | zero =>
    intro _
    refine Ev.step (fun k => by rw [spec_l1Norm.l0]) ?_
    simp only [if_neg (show ¬ ((0 : Nat) : Int) > 0 by omega), if_pos (show 0 ≤ ((0 : Nat) : Int) by omega), if_pos (show ((0 : Nat) : Int) ≤ (l.length : Int) by omega)]
    simpa [trim] using Ev.now ([] : List Int)
  | succ n ih =>
    intro hn
    refine Ev.step (fun k => by rw [spec_l1Norm.l0]) ?_
    rw [take_snoc (show n < l.length by omega)]
    simp only [if_pos (show ((n + 1 : Nat) : Int) > 0 by omega), wpred (show n ≤ 1099511627776 by omega), if_pos (show 0 ≤ (n : Int) by omega), if_pos (show (n : Int) < (l.length : Int) by omega), rd, Int.toNat_natCast]
    by_cases h : l.getD n 0 = 0
    · simp only [h, if_true, trim_snoc_zero]
      exact ih (by omega)
    · simp only [if_neg h, if_pos (show 0 ≤ ((n + 1 : Nat) : Int) by omega), if_pos (show ((n + 1 : Nat) : Int) ≤ (l.length : Int) by omega), trim_snoc _ h, Option.bind_some, List.nil_append, List.length_nil]
      rw [if_pos (by rw [List.length_take]; omega), take_snoc (show n < l.length by omega)]
      exact Ev.now _

theorem norm_eq (l : List Int) (hl : l.length ≤ 1099511627776) : Ev (fun k => spec_l1Norm.f k l) (trim l) := by
  have := norm_loop l hl l.length (Nat.le_refl _)
  rw [List.take_length] at this
  exact this

theorem digit_eq (l : List Int) {i : Int} (h : 0 ≤ i) : spec_l1Digit.f l i = some (l.getD i.toNat 0) := by
  unfold spec_l1Digit.f
  by_cases h1 : i < (l.length : Int)
  · simp only [if_pos h1, if_pos h, rd]
  · simp only [if_neg h1]
    rw [List.getD_eq_getElem?_getD, List.getElem?_eq_none (by omega)]
    rfl

theorem waddn {i j : Nat} (h : i ≤ 1048576) (h' : j ≤ 1048576) : wrap64 ((i : Int) + (j : Int)) = ((i + j : Nat) : Int) := by
  rw [w64 (by omega) (by omega)]
  omega

theorem mul_wrap {c o x y : Int} (c0 : 0 ≤ c) (c1 : c ≤ 65535) (o0 : 0 ≤ o) (o1 : o < 65536) (x0 : 0 ≤ x) (x1 : x < 65536) (y0 : 0 ≤ y) (y1 : y < 65536) :
    wrap64 (x * y) = x * y ∧ wrap64 (o + x * y) = o + x * y ∧ wrap64 (c + (o + x * y)) = c + (o + x * y) ∧ wrap64 (o + x * y + c) = c + (o + x * y) ∧
    Int.tmod (c + (o + x * y)) 65536 = (c + (o + x * y)) % 65536 ∧ wrap64 (Int.tdiv (c + (o + x * y)) 65536) = (c + (o + x * y)) / 65536 := by
  obtain ⟨h1, h2, h3, h4⟩ := mul_bound c0 c1 o0 o1 x0 x1 y0 y1
  generalize x * y = z at *
  refine ⟨w64 (by omega) (by omega), w64 (by omega) (by omega), w64 (by omega) (by omega), by rw [w64 (by omega) (by omega)]; omega, Int.tmod_eq_emod_of_nonneg h3, ?_⟩
  rw [Int.tdiv_eq_ediv_of_nonneg h3, w64 (by omega) (by omega)]

theorem implMul_row {a b : List Int} (ha : Dg a) (hb : Dg b) (h1 : a.length ≤ 1048576) (h2 : b.length ≤ 1048576) {i : Nat} (hi : i < a.length) :
    ∀ (d j : Nat) (o : List Int) (c : Int), b.length = j + d → MulIn a b o c i j → ∃ o', MulOut a b o' (i + 1) ∧ ∀ R, Ev (fun k => impl_natMul.l0 k b o' a (a.length : Int) ((i + 1 : Nat) : Int)) R →
      Ev (fun k => impl_natMul.l1 k b o (i : Int) (a.getD i 0) c a (a.length : Int) (i : Int) b (b.length : Int) (j : Int)) R := by
  intro d
  induction d with
  | zero =>
    intro j o c hj h
    obtain rfl : j = b.length := by omega
    have hlen := h.len
    refine ⟨_, h.leave hi, fun R hR => Ev.step (fun k => by rw [impl_natMul.l1]) ?_⟩
    simp only [if_neg (show ¬ (b.length : Int) < (b.length : Int) by omega), waddn (show i ≤ 1048576 by omega) (show b.length ≤ 1048576 by omega), if_pos (show 0 ≤ ((i + b.length : Nat) : Int) by omega),
      if_pos (show ((i + b.length : Nat) : Int) < (o.length : Int) by omega), Int.toNat_natCast, wsucc (show i ≤ 1099511627776 by omega)]
    exact hR
  | succ d ih =>
    intro j o c hj h
    have hlen := h.len
    have q1 : (j : Int) < (b.length : Int) := by omega
    have q2 : 0 ≤ (j : Int) := by omega
    have q3 : 0 ≤ ((i + j : Nat) : Int) := by omega
    have q4 : ((i + j : Nat) : Int) < (o.length : Int) := by omega
    have q5 : wrap64 ((i : Int) + (j : Int)) = ((i + j : Nat) : Int) := by exact waddn (by omega) (by omega)
    have q6 : wrap64 ((j : Int) + 1) = ((j + 1 : Nat) : Int) := by exact wsucc (by omega)
    have b1 := ha.getD i
    have b2 := hb.getD j
    have b3 := h.dg.getD (i + j)
    obtain ⟨w1, w2, w3, w4, w5, w6⟩ := mul_wrap h.c0 h.c1 b3.1 b3.2 b1.1 b1.2 b2.1 b2.2
    obtain ⟨o', ho', hr⟩ := ih (j + 1) _ _ (by omega) (h.step ha hb hi (by omega))
    refine ⟨o', ho', fun R hR => Ev.step (fun k => by rw [impl_natMul.l1]) ?_⟩
    have := hr R hR
    clear hr
    simp only [if_pos q1, if_pos q2, q5, if_pos q3, if_pos q4, rd, Int.toNat_natCast, q6, w1, w2, w3, w5, w6]
    exact this

theorem implMul_loop {a b : List Int} (ha : Dg a) (hb : Dg b) (h1 : a.length ≤ 1048576) (h2 : b.length ≤ 1048576) : ∀ (d i : Nat) (o : List Int), a.length = i + d → MulOut a b o i →
    ∃ r, val r = val a * val b ∧ Dg r ∧ r.length = a.length + b.length ∧ Ev (fun k => impl_natMul.l0 k b o a (a.length : Int) (i : Int)) (trim r) := by
  intro d
  induction d with
  | zero =>
    intro i o hi h
    obtain rfl : i = a.length := by omega
    have hlen := h.len
    refine ⟨o, h.done, h.dg, h.len, Ev.step (fun k => by rw [impl_natMul.l0]) ?_⟩
    simp only [if_neg (show ¬ (a.length : Int) < (a.length : Int) by omega)]
    exact Ev.bind (trimmed_eq o (by omega)) (Ev.now _)
  | succ d ih =>
    intro i o hi h
    obtain ⟨o', ho', hr⟩ := implMul_row ha hb h1 h2 (i := i) (by omega) b.length 0 o 0 (by omega) h.enter
    obtain ⟨r, v, g, l, e⟩ := ih (i + 1) o' (by omega) ho'
    refine ⟨r, v, g, l, Ev.step (fun k => by rw [impl_natMul.l0]) ?_⟩
    simp only [if_pos (show (i : Int) < (a.length : Int) by omega), if_pos (show 0 ≤ (i : Int) by omega), rd, Int.toNat_natCast]
    exact hr _ e

theorem implMul_eq {a b : List Int} (ha : Dg a) (hb : Dg b) (h1 : a.length ≤ 1048576) (h2 : b.length ≤ 1048576) :
    ∃ r, val r = val a * val b ∧ Dg r ∧ Nm r ∧ r.length ≤ a.length + b.length ∧ Ev (fun k => impl_natMul.f k a b) r := by
  obtain ⟨r, v, d, l, e⟩ := implMul_loop ha hb h1 h2 a.length 0 _ (by omega) (MulOut.start a b)
  have := trim_len r
  refine ⟨trim r, by rw [trim_val, v], trim_dg d, trim_nm r, by omega, ?_⟩
  unfold impl_natMul.f
  simp only [waddn h1 h2, if_pos (show 0 ≤ ((a.length + b.length : Nat) : Int) by omega), Int.toNat_natCast, if_pos (show a.length + b.length ≤ 35184372088832 by omega)]
  exact e

theorem specMul_row {a b : List Int} (ha : Dg a) (hb : Dg b) (h1 : a.length ≤ 1048576) (h2 : b.length ≤ 1048576) {i : Nat} (hi : i < a.length) :
    ∀ (d j : Nat) (o : List Int) (c : Int), b.length = j + d → MulIn a b o c i j → ∃ o', MulOut a b o' (i + 1) ∧ ∀ R, Ev (fun k => spec_l1Mul.l0 k a b o' ((i + 1 : Nat) : Int)) R →
      Ev (fun k => spec_l1Mul.l1 k a b o (i : Int) c (j : Int)) R := by
  intro d
  induction d with
  | zero =>
    intro j o c hj h
    obtain rfl : j = b.length := by omega
    have hlen := h.len
    have c0 := h.c0
    have c1 := h.c1
    have q7 : (i : Int) < (a.length : Int) := by omega
    have q8 : 0 ≤ (i : Int) := by omega
    by_cases hc : c > 0
    · refine ⟨_, h.leave hi, fun R hR => Ev.step (fun k => by rw [spec_l1Mul.l1]) ?_⟩
      have z1 : o.getD (i + b.length) 0 = 0 := h.zero _ (by omega)
      have z2 : b.getD b.length 0 = 0 := by rw [List.getD_eq_getElem?_getD, List.getElem?_eq_none (by omega)]; rfl
      simp only [if_neg (show ¬ (b.length : Int) < (b.length : Int) by omega), if_pos hc, waddn (show i ≤ 1048576 by omega) (show b.length ≤ 1048576 by omega), if_pos (show 0 ≤ ((i + b.length : Nat) : Int) by omega),
        if_pos (show ((i + b.length : Nat) : Int) < (o.length : Int) by omega), if_pos q8, if_pos q7, digit_eq _ (show 0 ≤ (b.length : Int) by omega), Option.bind_some, rd, Int.toNat_natCast, z1, z2, Int.mul_zero, Int.zero_add, wsucc (show b.length ≤ 1099511627776 by omega)]
      have w0 : wrap64 (0 : Int) = 0 := w64 (by omega) (by omega)
      have wc : wrap64 c = c := w64 (by omega) (by omega)
      have m1 : Int.tmod c 65536 = c := by rw [Int.tmod_eq_emod_of_nonneg c0]; clear wc w0; omega
      have m2 : Int.tdiv c 65536 = 0 := by rw [Int.tdiv_eq_ediv_of_nonneg c0]; clear wc w0 m1; omega
      simp only [w0, Int.zero_add, wc, m1, m2]
      clear w0 wc m1 m2
      refine Ev.step (fun k => by rw [spec_l1Mul.l1]) ?_
      simp only [if_neg (show ¬ ((b.length + 1 : Nat) : Int) < (b.length : Int) by omega), if_neg (show ¬ (0 : Int) > 0 by omega), wsucc (show i ≤ 1099511627776 by omega)]
      exact hR
    · have h0 : c = 0 := by omega
      subst h0
      have hl := h.leave hi
      have e : o.set (i + b.length) 0 = o := by
        apply List.ext_getElem (by simp)
        intro t t1 t2
        rw [List.getElem_set]
        split
        · rename_i e
          have z1 : o.getD t 0 = 0 := h.zero _ (by omega)
          rw [List.getD_eq_getElem?_getD, List.getElem?_eq_getElem t2] at z1
          exact z1.symm
        · rfl
      rw [e] at hl
      refine ⟨o, hl, fun R hR => Ev.step (fun k => by rw [spec_l1Mul.l1]) ?_⟩
      simp only [if_neg (show ¬ (b.length : Int) < (b.length : Int) by omega), if_neg hc, wsucc (show i ≤ 1099511627776 by omega)]
      exact hR
  | succ d ih =>
    intro j o c hj h
    have hlen := h.len
    have q1 : (j : Int) < (b.length : Int) := by omega
    have q2 : 0 ≤ (j : Int) := by omega
    have q3 : 0 ≤ ((i + j : Nat) : Int) := by omega
    have q4 : ((i + j : Nat) : Int) < (o.length : Int) := by omega
    have q5 : wrap64 ((i : Int) + (j : Int)) = ((i + j : Nat) : Int) := by exact waddn (by omega) (by omega)
    have q6 : wrap64 ((j : Int) + 1) = ((j + 1 : Nat) : Int) := by exact wsucc (by omega)
    have q7 : (i : Int) < (a.length : Int) := by omega
    have q8 : 0 ≤ (i : Int) := by omega
    have b1 := ha.getD i
    have b2 := hb.getD j
    have b3 := h.dg.getD (i + j)
    obtain ⟨w1, w2, w3, w4, w5, w6⟩ := mul_wrap h.c0 h.c1 b3.1 b3.2 b1.1 b1.2 b2.1 b2.2
    obtain ⟨o', ho', hr⟩ := ih (j + 1) _ _ (by omega) (h.step ha hb hi (by omega))
    refine ⟨o', ho', fun R hR => Ev.step (fun k => by rw [spec_l1Mul.l1]) ?_⟩
    have := hr R hR
    clear hr
    simp only [if_pos q1, q5, if_pos q3, if_pos q4, if_pos q8, if_pos q7, digit_eq _ q2, Option.bind_some, rd, Int.toNat_natCast, q6, w1, w2, w4, w5, w6]
    exact this

theorem specMul_loop {a b : List Int} (ha : Dg a) (hb : Dg b) (h1 : a.length ≤ 1048576) (h2 : b.length ≤ 1048576) : ∀ (d i : Nat) (o : List Int), a.length = i + d → MulOut a b o i →
    ∃ r, val r = val a * val b ∧ Dg r ∧ r.length = a.length + b.length ∧ Ev (fun k => spec_l1Mul.l0 k a b o (i : Int)) (trim r) := by
  intro d
  induction d with
  | zero =>
    intro i o hi h
    obtain rfl : i = a.length := by omega
    have hlen := h.len
    refine ⟨o, h.done, h.dg, h.len, Ev.step (fun k => by rw [spec_l1Mul.l0]) ?_⟩
    simp only [if_neg (show ¬ (a.length : Int) < (a.length : Int) by omega)]
    exact Ev.bind (norm_eq o (by omega)) (Ev.now _)
  | succ d ih =>
    intro i o hi h
    obtain ⟨o', ho', hr⟩ := specMul_row ha hb h1 h2 (i := i) (by omega) b.length 0 o 0 (by omega) h.enter
    obtain ⟨r, v, g, l, e⟩ := ih (i + 1) o' (by omega) ho'
    refine ⟨r, v, g, l, Ev.step (fun k => by rw [spec_l1Mul.l0]) ?_⟩
    simp only [if_pos (show (i : Int) < (a.length : Int) by omega)]
    exact hr _ e

theorem specMul_eq {a b : List Int} (ha : Dg a) (hb : Dg b) (h1 : a.length ≤ 1048576) (h2 : b.length ≤ 1048576) :
    ∃ r, val r = val a * val b ∧ Dg r ∧ Nm r ∧ r.length ≤ a.length + b.length ∧ Ev (fun k => spec_l1Mul.f k a b) r := by
  obtain ⟨r, v, d, l, e⟩ := specMul_loop ha hb h1 h2 a.length 0 _ (by omega) (MulOut.start a b)
  have := trim_len r
  refine ⟨trim r, by rw [trim_val, v], trim_dg d, trim_nm r, by omega, ?_⟩
  unfold spec_l1Mul.f
  simp only [waddn h1 h2, if_pos (show 0 ≤ ((a.length + b.length : Nat) : Int) by omega), Int.toNat_natCast, if_pos (show a.length + b.length ≤ 35184372088832 by omega)]
  exact e

theorem both (a b : List Int) (h1 : a.length ≤ 1048576) (h2 : b.length ≤ 1048576) :
    ∃ r bb, r.length ≤ 1048577 ∧ Ev (fun k => spec_NatMul.f k a b) (r, bb) ∧ Ev (fun k => impl_NatMul.f k a b) (r, bb) := by
  have oa := specNatOk_eq a (by omega)
  have ob := specNatOk_eq b (by omega)
  have ar := arOf h1 h2
  unfold spec_NatMul.f impl_NatMul.f
  by_cases k : natOk a = true ∧ natOk b = true
  · obtain ⟨ka, kb⟩ := k
    obtain ⟨la, da, na⟩ := (natOk_iff a).1 ka
    obtain ⟨lb, db, nb⟩ := (natOk_iff b).1 kb
    obtain ⟨r, v1, d1, n1, l1, e1⟩ := implMul_eq da db h1 h2
    obtain ⟨r', v2, d2, n2, l2, e2⟩ := specMul_eq da db h1 h2
    obtain rfl : r = r' := val_inj d1 d2 n1 n2 (by omega)
    have hs : ∃ q bb, q.length ≤ 1048577 ∧ spec_l1Fits.f r = some (q, bb) ∧ impl_limited.f r = some (q, bb) := by
      unfold spec_l1Fits.f impl_limited.f
      by_cases hl : (r.length : Int) > 64
      · simp only [if_pos hl]; exact ⟨[], false, by simp, rfl, rfl⟩
      · simp only [if_neg hl]; exact ⟨r, true, by omega, rfl, rfl⟩
    obtain ⟨q, bb, hq, f1, f2⟩ := hs
    refine ⟨q, bb, hq, Ev.bind oa ?_, Ev.bind ar ?_⟩
    · simp only [ka, if_true]
      refine Ev.bind ob ?_
      simp only [kb, Bool.not_true]
      refine Ev.step (fun k => by rw [spec_NatMul.j0]) ?_
      simp only [Bool.false_eq_true, if_false]
      refine Ev.bind e2 ?_
      simp only [f1, Option.bind_some]
      exact Ev.now _
    · simp only [List.all_cons, List.all_nil, ka, kb, Bool.and_true, if_true]
      refine Ev.bind e1 ?_
      simp only [f2, Option.bind_some]
      exact Ev.now _
  · have hj : Ev (fun k => spec_NatMul.j0 k a b true) (([] : List Int), false) := by
      refine Ev.step (fun k => by rw [spec_NatMul.j0]) ?_
      simp only [if_true]
      exact Ev.now _
    refine ⟨[], false, by simp, Ev.bind oa ?_, Ev.bind ar ?_⟩
    · cases ka : natOk a with
      | false => simpa using hj
      | true =>
        simp only [if_true]
        refine Ev.bind ob ?_
        cases kb : natOk b with
        | true => exact absurd ⟨ka, kb⟩ k
        | false => simpa using hj
    · rw [ok2 k]
      simpa using Ev.now (([] : List Int), false)
theorem FnExactNatMul : laws_FnExactNatMul.Pure := by
  intro a b _ _ _ _ _ _
  refine Ev.rounds (r := true) ?_
  unfold laws_FnExactNatMul.f
  by_cases h : (a.length : Int) > 1048576
  · simp only [if_pos h]; exact Ev.now _
  by_cases h' : (b.length : Int) > 1048576
  · simp only [if_neg h, if_pos h']; exact Ev.now _
  simp only [if_neg h, if_neg h']
  have ta := toIntS_eq a (by omega)
  have tb := toIntS_eq b (by omega)
  have ea := eqIntS_eq a (by omega)
  have eb := eqIntS_eq b (by omega)
  obtain ⟨r, bb, hl, r1, r2⟩ := both a b (by omega) (by omega)
  have er := eqIntS_eq r (by omega)
  have ma := markIntS_eq a (m0 := 1) (by omega) (by omega) (by omega)
  have mb := markIntS_eq b (m0 := 1 + a.length) (by omega) (by omega) (by omega)
  have mr := markIntS_eq r (m0 := 1) (by omega) (by omega) (by omega)
  have hr := heldIntS_eq r.length (m0 := 1) (by omega) (by omega) (by omega)
  have f1 : ¬ (1 : Int) + a.length + b.length < 0 := by omega
  have f2 : ¬ (1 : Int) + r.length < 0 := by omega
  refine Ev.bind ta (Ev.bind tb (Ev.bind r1 (Ev.bind ta (Ev.bind tb (Ev.bind r2 (Ev.bind er ?_))))))
  simp only [if_true, bne_self_eq_false]
  refine Ev.step (fun k => by rw [laws_FnExactNatMul.j0]) ?_
  simp only [Bool.false_eq_true, if_false]
  refine Ev.bind ta (Ev.bind ea ?_)
  simp only [if_true]
  refine Ev.bind tb (Ev.bind eb ?_)
  simp only [if_true]
  refine Ev.bind ma (Ev.bind mb ?_)
  simp only [if_neg f1]
  refine Ev.bind er ?_
  simp only [if_true, bne_self_eq_false]
  refine Ev.step (fun k => by rw [laws_FnExactNatMul.j1]) ?_
  simp only [Bool.false_eq_true, if_false]
  refine Ev.bind mr (Ev.bind hr ?_)
  simp only [if_neg f2, if_true]
  refine Ev.bind ta (Ev.bind tb (Ev.bind r2 (Ev.bind er ?_)))
  simp only [if_true, bne_self_eq_false]
  refine Ev.step (fun k => by rw [laws_FnExactNatMul.j2]) ?_
  simp only [Bool.false_eq_true, if_false]
  refine Ev.bind hr ?_
  simp only [if_neg f2, if_true]
  exact Ev.now _


end Go.Proofs.Ytohplbcbkggjaab.Pure
