/- The law FnExactNatAdd answers true at all digits: both sums are the digits of what both are worth together. -/
import Derived.Test.YtohplbcbkggjaabPFnExactNatAddx4
import Derived.Test.YtohplbcbkggjaabMDig
namespace Go.Proofs.Ytohplbcbkggjaab.Pure
open Go.RowKit Go.Proofs.Ytohplbcbkggjaab.PFnExactNatAdd Go.Proofs.YtohplbcbkggjaabW.PrintWords Go.Proofs.YtohplbcbkggjaabW.PrintLast Go.Proofs.Ytohplbcbkggjaab.Plain

set_option linter.unusedVariables false
set_option linter.unusedSimpArgs false

theorem w64 {n : Int} (h : -9223372036854775808 ≤ n) (h' : n ≤ 9223372036854775807) : wrap64 n = n := by
  unfold wrap64
  omega

theorem wf64 {n : Int} (h : (Lit.int .i64 n).wf = true) : -9223372036854775808 ≤ n ∧ n ≤ 9223372036854775807 := by
  simpa [Lit.wf, IntKind.min, IntKind.max, IntKind.signed, IntKind.bits] using h

theorem wsucc {i : Nat} (h : i ≤ 1099511627776) : wrap64 ((i : Int) + 1) = ((i + 1 : Nat) : Int) := by
  rw [w64 (by omega) (by omega)]
  omega

theorem wpred {i : Nat} (h : i ≤ 1099511627776) : wrap64 (((i + 1 : Nat) : Int) - 1) = (i : Int) := by
  rw [w64 (by omega) (by omega)]
  omega

theorem in_eq (n a b : Int) : spec_l1In.f n a b = some (decide (a ≤ n ∧ n ≤ b)) := by
  unfold spec_l1In.f
  by_cases h : n ≥ a
  · rw [if_pos h]
    have : a ≤ n := h
    simp [this]
  · rw [if_neg h]
    have : ¬ a ≤ n := h
    simp [this]

theorem within_eq (n a b : Int) : impl_within.f n a b = some (decide (a ≤ n ∧ n ≤ b)) := by
  unfold impl_within.f
  by_cases h : n ≥ a
  · rw [if_pos h]
    have : a ≤ n := h
    simp [this]
  · rw [if_neg h]
    have : ¬ a ≤ n := h
    simp [this]

theorem toIntS_loop (l : List Int) (hl : l.length ≤ 1099511627776) : ∀ (d : Nat) (x : List Int) (i : Int), 0 ≤ i → (l.length : Int) - i = d → x.length = l.length → (∀ j : Nat, (j : Int) < i → x.getD j 0 = l.getD j 0) →
    Ev (fun k => laws_toIntS.l0 k l x i) l := by
  intro d
  induction d with
  | zero =>
    intro x i h0 hd hx he
    refine Ev.step (fun k => by rw [laws_toIntS.l0]) ?_
    simp only [if_neg (show ¬ i < (l.length : Int) by omega)]
    have : x = l := by
      apply List.ext_getElem hx
      intro j h1 h2
      have := he j (by omega)
      rwa [List.getD_eq_getElem?_getD, List.getD_eq_getElem?_getD, List.getElem?_eq_getElem h1, List.getElem?_eq_getElem h2] at this
    rw [this]
    exact Ev.now _
  | succ d ih =>
    intro x i h0 hd hx he
    refine Ev.step (fun k => by rw [laws_toIntS.l0]) ?_
    simp only [if_pos (show i < (l.length : Int) by omega), if_pos h0, hx]
    rw [w64 (n := i + 1) (by omega) (by omega)]
    refine ih _ (i + 1) (by omega) (by omega) (by simpa using hx) (fun j hj => ?_)
    unfold rd
    rw [List.getD_eq_getElem?_getD, List.getElem?_set]
    by_cases hji : i.toNat = j
    · subst hji
      rw [if_pos rfl, if_pos (by omega)]
      rfl
    · rw [if_neg hji, ← List.getD_eq_getElem?_getD]
      exact he j (by omega)

theorem toIntS_eq (l : List Int) (hl : l.length ≤ 1099511627776) : Ev (fun k => laws_toIntS.f k l) l := by
  unfold laws_toIntS.f
  simp only [if_pos (show 0 ≤ (l.length : Int) by omega), if_pos (show ((l.length : Int)).toNat ≤ 35184372088832 by omega)]
  exact toIntS_loop l hl l.length _ 0 (by omega) (by omega) (by simp) (fun j hj => by omega)

theorem eqIntS_loop (l : List Int) (hl : l.length ≤ 1099511627776) : ∀ (d : Nat) (i : Int), 0 ≤ i → (l.length : Int) - i = d → Ev (fun k => laws_eqIntS.l0 k l l i) true := by
  intro d
  induction d with
  | zero =>
    intro i h0 hd
    refine Ev.step (fun k => by rw [laws_eqIntS.l0]) ?_
    simp only [if_neg (show ¬ i < (l.length : Int) by omega)]
    exact Ev.now _
  | succ d ih =>
    intro i h0 hd
    refine Ev.step (fun k => by rw [laws_eqIntS.l0]) ?_
    simp only [if_pos (show i < (l.length : Int) by omega), if_pos h0, if_true]
    rw [w64 (n := i + 1) (by omega) (by omega)]
    exact ih (i + 1) (by omega) (by omega)

theorem eqIntS_eq (l : List Int) (hl : l.length ≤ 1099511627776) : Ev (fun k => laws_eqIntS.f k l l) true := by
  unfold laws_eqIntS.f
  simp only [if_true]
  exact eqIntS_loop l hl l.length 0 (by omega) (by omega)

theorem markIntS_loop (n : Nat) (m0 : Int) (hm : 1 ≤ m0) (hm' : m0 ≤ 1099511627776) (hl : n ≤ 1099511627776) : ∀ (d : Nat) (x : List Int) (i : Int), 0 ≤ i → (n : Int) - i = d → x.length = n →
    (∀ j : Nat, (j : Int) < i → x.getD j 0 = m0 + j) → Ev (fun k => laws_markIntS.l0 k x (m0 + i) i) (m0 + n, (List.range n).map (fun j => m0 + ((j : Nat) : Int))) := by
  intro d
  induction d with
  | zero =>
    intro x i h0 hd hx he
    refine Ev.step (fun k => by rw [laws_markIntS.l0]) ?_
    simp only [hx, if_neg (show ¬ i < (n : Int) by omega)]
    have : x = (List.range n).map (fun j => m0 + ((j : Nat) : Int)) := by
      apply List.ext_getElem (by simpa using hx)
      intro j h1 h2
      have := he j (by omega)
      rw [List.getD_eq_getElem?_getD, List.getElem?_eq_getElem h1] at this
      simpa using this
    rw [this, show m0 + i = m0 + (n : Int) by omega]
    exact Ev.now _
  | succ d ih =>
    intro x i h0 hd hx he
    refine Ev.step (fun k => by rw [laws_markIntS.l0]) ?_
    simp only [hx, if_pos (show i < (n : Int) by omega), if_pos h0]
    rw [w64 (n := i + 1) (by omega) (by omega), w64 (n := m0 + i + 1) (by omega) (by omega), show m0 + i + 1 = m0 + (i + 1) by omega]
    refine ih _ (i + 1) (by omega) (by omega) (by simpa using hx) (fun j hj => ?_)
    rw [List.getD_eq_getElem?_getD, List.getElem?_set]
    by_cases hji : i.toNat = j
    · subst hji
      rw [if_pos rfl, if_pos (by omega)]
      simp only [Option.getD_some]
      omega
    · rw [if_neg hji, ← List.getD_eq_getElem?_getD]
      exact he j (by omega)

def marked (n : Nat) (m0 : Int) : List Int := (List.range n).map (fun j => m0 + ((j : Nat) : Int))

theorem markIntS_eq (l : List Int) {m0 : Int} (hm : 1 ≤ m0) (hm' : m0 ≤ 1099511627776) (hl : l.length ≤ 1099511627776) : Ev (fun k => laws_markIntS.f k l m0) (m0 + l.length, marked l.length m0) := by
  unfold laws_markIntS.f
  have := markIntS_loop l.length m0 hm hm' hl l.length l 0 (by omega) (by omega) rfl (fun j hj => by omega)
  rwa [Int.add_zero] at this

theorem heldIntS_loop (n : Nat) (m0 : Int) (hm : 1 ≤ m0) (hm' : m0 ≤ 1099511627776) (hl : n ≤ 1099511627776) : ∀ (d : Nat) (i : Int), 0 ≤ i → (n : Int) - i = d →
    Ev (fun k => laws_heldIntS.l0 k (marked n m0) (m0 + i) i) (m0 + n) := by
  have hlen : (marked n m0).length = n := by simp [marked]
  intro d
  induction d with
  | zero =>
    intro i h0 hd
    refine Ev.step (fun k => by rw [laws_heldIntS.l0]) ?_
    simp only [hlen, if_neg (show ¬ i < (n : Int) by omega)]
    rw [show m0 + i = m0 + (n : Int) by omega]
    exact Ev.now _
  | succ d ih =>
    intro i h0 hd
    refine Ev.step (fun k => by rw [laws_heldIntS.l0]) ?_
    have hr : rd (marked n m0) i = m0 + i := by
      unfold rd marked
      rw [List.getD_eq_getElem?_getD, List.getElem?_map, List.getElem?_range (by omega)]
      simp only [Option.map_some, Option.getD_some]
      omega
    simp only [hlen, if_pos (show i < (n : Int) by omega), if_pos h0, hr, if_true]
    rw [w64 (n := i + 1) (by omega) (by omega), w64 (n := m0 + i + 1) (by omega) (by omega), show m0 + i + 1 = m0 + (i + 1) by omega]
    exact ih (i + 1) (by omega) (by omega)

theorem heldIntS_eq (n : Nat) {m0 : Int} (hm : 1 ≤ m0) (hm' : m0 ≤ 1099511627776) (hl : n ≤ 1099511627776) : Ev (fun k => laws_heldIntS.f k (marked n m0) m0) (m0 + n) := by
  unfold laws_heldIntS.f
  have := heldIntS_loop n m0 hm hm' hl n 0 (by omega) (by omega)
  rwa [Int.add_zero] at this

theorem specNatOk_loop (l : List Int) (hl : l.length ≤ 1099511627776) : ∀ (d : Nat) (i : Int), 0 ≤ i → (l.length : Int) - i = d →
    Ev (fun k => spec_NatOk.l0 k l i) ((l.drop i.toNat).all (fun d => decide (0 ≤ d ∧ d ≤ 65535)) && decide (l.length ≤ 64) && (l.isEmpty || (l.getD (l.length - 1) 0 != 0))) := by
  intro d
  induction d with
  | zero =>
    intro i h0 hd
    refine Ev.step (fun k => by rw [spec_NatOk.l0]) ?_
    simp only [if_neg (show ¬ i < (l.length : Int) by omega)]
    rw [List.drop_eq_nil_of_le (by omega)]
    by_cases h1 : (l.length : Int) ≤ 64
    · simp only [if_pos h1, show l.length ≤ 64 by omega]
      by_cases h2 : (l.length : Int) = 0
      · obtain rfl : l = [] := List.length_eq_zero_iff.1 (by omega)
        simpa using Ev.now true
      · have e : wrap64 ((l.length : Int) - 1) = (l.length : Int) - 1 := w64 (by omega) (by omega)
        have hne : l.isEmpty = false := by cases l with | nil => simp at h2 | cons a l => rfl
        simp only [if_neg h2, e, if_pos (show 0 ≤ (l.length : Int) - 1 by omega), if_pos (show (l.length : Int) - 1 < l.length by omega), hne, rd, show ((l.length : Int) - 1).toNat = l.length - 1 by omega]
        simpa using Ev.now _
    · simp only [if_neg h1, show ¬ l.length ≤ 64 by omega]
      simpa using Ev.now false
  | succ d ih =>
    intro i h0 hd
    refine Ev.step (fun k => by rw [spec_NatOk.l0]) ?_
    have hi : i.toNat < l.length := by omega
    rw [List.drop_eq_getElem_cons hi, List.all_cons]
    have hr : rd l i = l[i.toNat] := by simp [rd, List.getD_eq_getElem?_getD, List.getElem?_eq_getElem hi]
    simp only [if_pos (show i < (l.length : Int) by omega), if_pos h0, in_eq, hr, Option.bind_some]
    by_cases h1 : 0 ≤ l[i.toNat] ∧ l[i.toNat] ≤ 65535
    · simp only [h1.1, h1.2, and_self, decide_true, if_true, Bool.true_and]
      rw [w64 (by omega) (by omega)]
      have := ih (i + 1) (by omega) (by omega)
      rwa [show (i + 1).toNat = i.toNat + 1 by omega] at this
    · simp only [h1, decide_false, Bool.false_and]
      simpa using Ev.now false

theorem specNatOk_eq (l : List Int) (hl : l.length ≤ 1099511627776) : Ev (fun k => spec_NatOk.f k l) (natOk l) := by
  unfold spec_NatOk.f natOk
  have := specNatOk_loop l hl l.length 0 (by omega) (by omega)
  rw [Int.toNat_zero, List.drop_zero] at this
  rwa [Bool.and_comm (decide (l.length ≤ 64))]

theorem allWithin_loop (l : List Int) (a b : Int) (hl : l.length ≤ 1099511627776) : ∀ (d : Nat) (i : Int), 0 ≤ i → (l.length : Int) - i = d →
    Ev (fun k => impl_allWithin.l0 k a b l (l.length : Int) i) ((l.drop i.toNat).all (fun d => decide (a ≤ d ∧ d ≤ b))) := by
  intro d
  induction d with
  | zero =>
    intro i h0 hd
    refine Ev.step (fun k => by rw [impl_allWithin.l0]) ?_
    simp only [if_neg (show ¬ i < (l.length : Int) by omega)]
    rw [List.drop_eq_nil_of_le (by omega)]
    exact Ev.now _
  | succ d ih =>
    intro i h0 hd
    refine Ev.step (fun k => by rw [impl_allWithin.l0]) ?_
    have hi : i.toNat < l.length := by omega
    rw [List.drop_eq_getElem_cons hi, List.all_cons]
    have hr : rd l i = l[i.toNat] := by simp [rd, List.getD_eq_getElem?_getD, List.getElem?_eq_getElem hi]
    simp only [if_pos (show i < (l.length : Int) by omega), if_pos h0, within_eq, hr, Option.bind_some]
    by_cases h1 : a ≤ l[i.toNat] ∧ l[i.toNat] ≤ b
    · simp only [h1.1, h1.2, and_self, decide_true, if_true, Bool.true_and]
      rw [w64 (by omega) (by omega)]
      have := ih (i + 1) (by omega) (by omega)
      rwa [show (i + 1).toNat = i.toNat + 1 by omega] at this
    · simp only [h1, decide_false, Bool.false_and]
      simpa using Ev.now false

theorem allWithin_eq (l : List Int) (a b : Int) (hl : l.length ≤ 1099511627776) : Ev (fun k => impl_allWithin.f k l a b) (l.all (fun d => decide (a ≤ d ∧ d ≤ b))) := by
  unfold impl_allWithin.f
  have := allWithin_loop l a b hl l.length 0 (by omega) (by omega)
  rwa [Int.toNat_zero, List.drop_zero] at this

theorem implNatOk_eq (l : List Int) (hl : l.length ≤ 1099511627776) : Ev (fun k => impl_NatOk.f k l) (natOk l) := by
  unfold impl_NatOk.f natOk
  by_cases h1 : (l.length : Int) ≤ 64
  · simp only [if_pos h1, show l.length ≤ 64 by omega, decide_true, Bool.true_and]
    refine Ev.bind (allWithin_eq l 0 65535 hl) ?_
    by_cases h3 : l.all (fun d => decide (0 ≤ d ∧ d ≤ 65535)) = true
    · simp only [h3, if_true, Bool.true_and]
      by_cases h2 : (l.length : Int) = 0
      · obtain rfl : l = [] := List.length_eq_zero_iff.1 (by omega)
        simpa using Ev.now true
      · have e : wrap64 ((l.length : Int) - 1) = (l.length : Int) - 1 := w64 (by omega) (by omega)
        have hne : l.isEmpty = false := by cases l with | nil => simp at h2 | cons a l => rfl
        simp only [if_neg h2, e, if_pos (show 0 ≤ (l.length : Int) - 1 by omega), if_pos (show (l.length : Int) - 1 < l.length by omega), hne, rd, show ((l.length : Int) - 1).toNat = l.length - 1 by omega]
        simpa using Ev.now _
    · simp only [h3, Bool.false_and]
      simpa using Ev.now false
  · simp only [if_neg h1, show ¬ l.length ≤ 64 by omega]
    simpa using Ev.now false

theorem indexFunc_loop (ls : List (List Int)) (hl : ls.length ≤ 1048576) (hs : ∀ l ∈ ls, l.length ≤ 1099511627776) : ∀ (d : Nat) (i : Int), 0 ≤ i → (ls.length : Int) - i = d →
    ∃ r, Ev (fun k => slices_IndexFunc_int_int.l0 k ls (ls.length : Int) i) r ∧ (0 ≤ r ↔ (ls.drop i.toNat).all natOk = false) := by
  intro d
  induction d with
  | zero =>
    intro i h0 hd
    refine ⟨-1, Ev.step (fun k => by rw [slices_IndexFunc_int_int.l0]) ?_, ?_⟩
    · simp only [if_neg (show ¬ i < (ls.length : Int) by omega)]
      exact Ev.now _
    · rw [List.drop_eq_nil_of_le (by omega)]
      simp
  | succ d ih =>
    intro i h0 hd
    have hi : i.toNat < ls.length := by omega
    have hr : rd_L1 ls i = ls[i.toNat] := by
      simp [rd_L1, List.getD_eq_getElem?_getD, List.getElem?_eq_getElem hi]
    rw [List.drop_eq_getElem_cons hi, List.all_cons]
    have hk := implNatOk_eq ls[i.toNat] (hs _ (List.getElem_mem hi))
    have hc : Ev (fun k => impl_areNats_1.f k ls[i.toNat]) (!natOk ls[i.toNat]) := by
      unfold impl_areNats_1.f
      exact Ev.bind hk (Ev.now _)
    cases hb : natOk ls[i.toNat] with
    | false =>
      rw [hb] at hc
      refine ⟨i, Ev.step (fun k => by rw [slices_IndexFunc_int_int.l0]) ?_, by simp [h0]⟩
      simp only [if_pos (show i < (ls.length : Int) by omega), if_pos h0, hr]
      refine Ev.bind hc ?_
      simpa using Ev.now i
    | true =>
      rw [hb] at hc
      obtain ⟨r, hr', he⟩ := ih (i + 1) (by omega) (by omega)
      refine ⟨r, Ev.step (fun k => by rw [slices_IndexFunc_int_int.l0]) ?_, ?_⟩
      · simp only [if_pos (show i < (ls.length : Int) by omega), if_pos h0, hr]
        refine Ev.bind hc ?_
        rw [w64 (n := i + 1) (by omega) (by omega)]
        simpa using hr'
      · rw [he, show (i + 1).toNat = i.toNat + 1 by omega]
        simp

theorem areNats_eq (ls : List (List Int)) (hl : ls.length ≤ 1048576) (hs : ∀ l ∈ ls, l.length ≤ 1099511627776) : Ev (fun k => impl_areNats.f k ls) (ls.all natOk) := by
  obtain ⟨r, hr, he⟩ := indexFunc_loop ls hl hs ls.length 0 (by omega) (by omega)
  unfold impl_areNats.f slices_ContainsFunc_int_int.f slices_IndexFunc_int_int.f
  refine Ev.bind (Ev.bind hr (Ev.now _)) ?_
  have : (!decide (r ≥ 0)) = ls.all natOk := by
    rw [Int.toNat_zero, List.drop_zero] at he
    cases hb : ls.all natOk with
    | true => rw [hb] at he; simp at he; simp; omega
    | false => rw [hb] at he; simp at he; simp; omega
  rw [this]
  exact Ev.now _

theorem ok2 {a b : List Int} (k : ¬ (natOk a = true ∧ natOk b = true)) : [a, b].all natOk = false := by
  simp only [List.all_cons, List.all_nil, Bool.and_true]
  cases ka : natOk a with
  | false => rfl
  | true =>
    cases kb : natOk b with
    | true => exact absurd ⟨ka, kb⟩ k
    | false => rfl

theorem arOf {a b : List Int} (h1 : a.length ≤ 1048576) (h2 : b.length ≤ 1048576) : Ev (fun k => impl_areNats.f k [a, b]) ([a, b].all natOk) :=
  areNats_eq [a, b] (by simp) (by intro l hl; simp at hl; rcases hl with rfl | rfl <;> omega)

theorem trimmed_loop (l : List Int) (hl : l.length ≤ 1099511627776) : ∀ (n : Nat), n ≤ l.length → Ev (fun k => impl_trimmed.l0 k l (n : Int)) (trim (l.take n)) := by
  intro n
  induction n with
  | zero =>
    intro _
    refine Ev.step (fun k => by rw [impl_trimmed.l0]) ?_
    simp only [if_neg (show ¬ ((0 : Nat) : Int) > 0 by omega), if_pos (show 0 ≤ ((0 : Nat) : Int) by omega), if_pos (show ((0 : Nat) : Int) ≤ (l.length : Int) by omega)]
    simpa [trim] using Ev.now ([] : List Int)
  | succ n ih =>
    intro hn
    refine Ev.step (fun k => by rw [impl_trimmed.l0]) ?_
    rw [take_snoc (show n < l.length by omega)]
    simp only [if_pos (show ((n + 1 : Nat) : Int) > 0 by omega), wpred (show n ≤ 1099511627776 by omega), if_pos (show 0 ≤ (n : Int) by omega), if_pos (show (n : Int) < (l.length : Int) by omega), rd, Int.toNat_natCast]
    by_cases h : l.getD n 0 = 0
    · simp only [h, if_true, trim_snoc_zero]
      exact ih (by omega)
    · simp only [if_neg h, if_pos (show 0 ≤ ((n + 1 : Nat) : Int) by omega), if_pos (show ((n + 1 : Nat) : Int) ≤ (l.length : Int) by omega), trim_snoc _ h, take_snoc (show n < l.length by omega)]
      exact Ev.now _

theorem trimmed_eq (l : List Int) (hl : l.length ≤ 1099511627776) : Ev (fun k => impl_trimmed.f k l) (trim l) := by
  have := trimmed_loop l hl l.length (Nat.le_refl _)
  rw [List.take_length] at this
  exact this

theorem norm_loop (l : List Int) (hl : l.length ≤ 1099511627776) : ∀ (n : Nat), n ≤ l.length → Ev (fun k => spec_l1Norm.l0 k l (n : Int)) (trim (l.take n)) := by
  intro n
  induction n with
  | zero =>
    intro _
    refine Ev.step (fun k => by rw [spec_l1Norm.l0]) ?_
    simp only [if_neg (show ¬ ((0 : Nat) : Int) > 0 by omega), if_pos (show 0 ≤ ((0 : Nat) : Int) by omega), if_pos (show ((0 : Nat) : Int) ≤ (l.length : Int) by omega)]
    simpa [trim] using Ev.now ([] : List Int)
  | succ n ih =>
    intro hn
    refine Ev.step (fun k => by rw [spec_l1Norm.l0]) ?_
    rw [take_snoc (show n < l.length by omega)]
    simp only [if_pos (show ((n + 1 : Nat) : Int) > 0 by omega), wpred (show n ≤ 1099511627776 by omega), if_pos (show 0 ≤ (n : Int) by omega), if_pos (show (n : Int) < (l.length : Int) by omega), rd, Int.toNat_natCast]
    by_cases h : l.getD n 0 = 0
    · simp only [h, if_true, trim_snoc_zero]
      exact ih (by omega)
    · simp only [if_neg h, if_pos (show 0 ≤ ((n + 1 : Nat) : Int) by omega), if_pos (show ((n + 1 : Nat) : Int) ≤ (l.length : Int) by omega), trim_snoc _ h, Option.bind_some, List.nil_append, List.length_nil]
      rw [if_pos (by rw [List.length_take]; omega), take_snoc (show n < l.length by omega)]
      exact Ev.now _

theorem norm_eq (l : List Int) (hl : l.length ≤ 1099511627776) : Ev (fun k => spec_l1Norm.f k l) (trim l) := by
  have := norm_loop l hl l.length (Nat.le_refl _)
  rw [List.take_length] at this
  exact this

theorem digit_eq (l : List Int) {i : Int} (h : 0 ≤ i) : spec_l1Digit.f l i = some (l.getD i.toNat 0) := by
  unfold spec_l1Digit.f
  by_cases h1 : i < (l.length : Int)
  · simp only [if_pos h1, if_pos h, rd]
  · simp only [if_neg h1]
    rw [List.getD_eq_getElem?_getD, List.getElem?_eq_none (by omega)]
    rfl

theorem getD_out {l : List Int} {i : Nat} (h : ¬ (i : Int) < (l.length : Int)) : l.getD i 0 = 0 := by
  rw [List.getD_eq_getElem?_getD, List.getElem?_eq_none (by omega)]
  rfl

theorem tm {x m : Int} (h : 0 ≤ x) : Int.tmod x m = x % m := Int.tmod_eq_emod_of_nonneg h
theorem td {x m : Int} (h : 0 ≤ x) : Int.tdiv x m = x / m := Int.tdiv_eq_ediv_of_nonneg h

theorem implAdd_loop {a b : List Int} (ha : Dg a) (hb : Dg b) (n : Nat) (hn : n ≤ 1048577) (h1 : a.length + 1 ≤ n) (h2 : b.length + 1 ≤ n) : ∀ (d i : Nat) (x : List Int) (c : Int), n = i + d → AddInv a b x c i →
    ∃ r, val r = val a + val b ∧ Dg r ∧ r.length = n ∧ Ev (fun k => impl_natAdd.l0 k a b x c (n : Int) (i : Int)) (trim r) := by
  intro d
  induction d with
  | zero =>
    intro i x c hi h
    obtain ⟨rfl, hv⟩ := h.done ha hb (by omega) (by omega)
    refine ⟨x, hv, h.dg, by rw [h.len]; omega, Ev.step (fun k => by rw [impl_natAdd.l0]) ?_⟩
    simp only [if_neg (show ¬ (i : Int) < (n : Int) by omega)]
    exact Ev.bind (trimmed_eq x (by rw [h.len]; omega)) (Ev.now _)
  | succ d ih =>
    intro i x c hi h
    obtain ⟨r, hv, hd, hl, hr⟩ := ih (i + 1) _ _ (by omega) (h.step ha hb)
    refine ⟨r, hv, hd, hl, Ev.step (fun k => by rw [impl_natAdd.l0]) ?_⟩
    have b1 := ha.getD i
    have b2 := hb.getD i
    have c0 := h.c0
    have c1 := h.c1
    have len := h.len
    simp only [if_pos (show (i : Int) < (n : Int) by omega), if_pos (show 0 ≤ (i : Int) by omega), if_pos (show x.length < 17592186044416 by omega), rd, Int.toNat_natCast, wsucc (show i ≤ 1099511627776 by omega)]
    by_cases p1 : (i : Int) < (a.length : Int)
    · by_cases p2 : (i : Int) < (b.length : Int)
      · simp only [if_pos p1, if_pos p2]
        rw [w64 (n := c + a.getD i 0) (by omega) (by omega), w64 (n := c + a.getD i 0 + b.getD i 0) (by omega) (by omega), tm (by omega), td (by omega), w64 (by omega) (by omega)]
        exact hr
      · simp only [if_pos p1, if_neg p2]
        rw [getD_out p2, Int.add_zero] at hr
        rw [w64 (n := c + a.getD i 0) (by omega) (by omega), tm (by omega), td (by omega), w64 (by omega) (by omega)]
        exact hr
    · rw [getD_out p1, Int.add_zero] at hr
      by_cases p2 : (i : Int) < (b.length : Int)
      · simp only [if_neg p1, if_pos p2]
        rw [w64 (n := c + b.getD i 0) (by omega) (by omega), tm (by omega), td (by omega), w64 (by omega) (by omega)]
        exact hr
      · simp only [if_neg p1, if_neg p2]
        rw [getD_out p2, Int.add_zero] at hr
        rw [tm (by omega), td (by omega), w64 (by omega) (by omega)]
        exact hr

theorem implAdd_eq {a b : List Int} (ha : Dg a) (hb : Dg b) (h1 : a.length ≤ 1048576) (h2 : b.length ≤ 1048576) :
    ∃ r, val r = val a + val b ∧ Dg r ∧ Nm r ∧ r.length ≤ 1048577 ∧ (r.length ≤ a.length + 1 ∨ r.length ≤ b.length + 1) ∧ Ev (fun k => impl_natAdd.f k a b) r := by
  unfold impl_natAdd.f
  have e : wrap64 (mx (a.length : Int) (b.length : Int) + 1) = ((max a.length b.length + 1 : Nat) : Int) := by
    have : mx (a.length : Int) (b.length : Int) = ((max a.length b.length : Nat) : Int) := by
      unfold mx
      split <;> omega
    rw [this, w64 (by omega) (by omega)]
    omega
  obtain ⟨r, hv, hd, hl, hr⟩ := implAdd_loop ha hb (max a.length b.length + 1) (by omega) (by omega) (by omega) (max a.length b.length + 1) 0 [] 0 (by omega) (AddInv.start a b)
  have := trim_len r
  refine ⟨trim r, by rw [trim_val, hv], trim_dg hd, trim_nm r, by omega, by omega, ?_⟩
  rw [e]
  exact hr

theorem specAdd_loop {a b : List Int} (ha : Dg a) (hb : Dg b) (h1 : a.length ≤ 1048576) (h2 : b.length ≤ 1048576) : ∀ (d i : Nat) (x : List Int) (c : Int), max a.length b.length + 1 ≤ i + d → i ≤ 1048577 → AddInv a b x c i →
    ∃ r, val r = val a + val b ∧ Dg r ∧ Ev (fun k => spec_l1Add.l0 k a b x c (i : Int)) (trim r) := by
  intro d
  induction d with
  | zero =>
    intro i x c hi hi' h
    obtain ⟨rfl, hv⟩ := h.done ha hb (by omega) (by omega)
    refine ⟨x, hv, h.dg, Ev.step (fun k => by rw [spec_l1Add.l0]) ?_⟩
    simp only [if_neg (show ¬ (i : Int) < (a.length : Int) by omega), if_neg (show ¬ (i : Int) < (b.length : Int) by omega)]
    refine Ev.step (fun k => by rw [spec_l1Add.j1]) ?_
    simp only [show decide ((0 : Int) > 0) = false by decide, Bool.false_eq_true, if_false]
    exact Ev.bind (norm_eq x (by rw [h.len]; omega)) (Ev.now _)
  | succ d ih =>
    intro i x c hi hi' h
    by_cases he : ¬ (i : Int) < (a.length : Int) ∧ ¬ (i : Int) < (b.length : Int) ∧ c = 0
    · obtain ⟨e1, e2, rfl⟩ := he
      refine ⟨x, h.done0 (by omega) (by omega), h.dg, Ev.step (fun k => by rw [spec_l1Add.l0]) ?_⟩
      simp only [if_neg e1, if_neg e2]
      refine Ev.step (fun k => by rw [spec_l1Add.j1]) ?_
      simp only [show decide ((0 : Int) > 0) = false by decide, Bool.false_eq_true, if_false]
      exact Ev.bind (norm_eq x (by rw [h.len]; omega)) (Ev.now _)
    · have hlt : i < max a.length b.length + 1 := by
        rcases Nat.lt_or_ge i (max a.length b.length + 1) with h' | h'
        · exact h'
        · have := (h.done ha hb (by omega) (by omega)).1
          exact absurd ⟨by omega, by omega, this⟩ he
      have b1 := ha.getD i
      have b2 := hb.getD i
      have c0 := h.c0
      have c1 := h.c1
      have len := h.len
      obtain ⟨r, hv, hd, hr⟩ := ih (i + 1) _ _ (by omega) (by omega) (h.step ha hb)
      have hj : Ev (fun k => spec_l1Add.j1 k a b x c (i : Int) true) (trim r) := by
        refine Ev.step (fun k => by rw [spec_l1Add.j1]) ?_
        simp only [if_true, digit_eq _ (show 0 ≤ (i : Int) by omega), Option.bind_some, Int.toNat_natCast, if_pos (show x.length < 17592186044416 by omega), wsucc (show i ≤ 1099511627776 by omega)]
        rw [w64 (n := a.getD i 0 + b.getD i 0) (by omega) (by omega), show a.getD i 0 + b.getD i 0 + c = c + a.getD i 0 + b.getD i 0 by omega, w64 (n := c + a.getD i 0 + b.getD i 0) (by omega) (by omega), Int.tmod_eq_emod_of_nonneg (by omega), Int.tdiv_eq_ediv_of_nonneg (by omega), w64 (by omega) (by omega)]
        exact hr
      refine ⟨r, hv, hd, Ev.step (fun k => by rw [spec_l1Add.l0]) ?_⟩
      by_cases p1 : (i : Int) < (a.length : Int)
      · simp only [if_pos p1]; exact hj
      · by_cases p2 : (i : Int) < (b.length : Int)
        · simp only [if_neg p1, if_pos p2]; exact hj
        · have : c > 0 := by
            rcases Int.lt_or_le 0 c with h' | h'
            · exact h'
            · exact absurd ⟨p1, p2, by omega⟩ he
          simp only [if_neg p1, if_neg p2, this, decide_true]; exact hj

theorem specAdd_eq {a b : List Int} (ha : Dg a) (hb : Dg b) (h1 : a.length ≤ 1048576) (h2 : b.length ≤ 1048576) :
    ∃ r, val r = val a + val b ∧ Dg r ∧ Nm r ∧ Ev (fun k => spec_l1Add.f k a b) r := by
  obtain ⟨r, hv, hd, hr⟩ := specAdd_loop ha hb h1 h2 (max a.length b.length + 1) 0 [] 0 (by omega) (by omega) (AddInv.start a b)
  exact ⟨trim r, by rw [trim_val, hv], trim_dg hd, trim_nm r, hr⟩

theorem both (a b : List Int) (h1 : a.length ≤ 1048576) (h2 : b.length ≤ 1048576) :
    ∃ r bb, r.length ≤ 1048577 ∧ Ev (fun k => spec_NatAdd.f k a b) (r, bb) ∧ Ev (fun k => impl_NatAdd.f k a b) (r, bb) := by
  have oa := specNatOk_eq a (by omega)
  have ob := specNatOk_eq b (by omega)
  have ar := arOf h1 h2
  unfold spec_NatAdd.f impl_NatAdd.f
  by_cases k : natOk a = true ∧ natOk b = true
  · obtain ⟨ka, kb⟩ := k
    obtain ⟨la, da, na⟩ := (natOk_iff a).1 ka
    obtain ⟨lb, db, nb⟩ := (natOk_iff b).1 kb
    obtain ⟨r, v1, d1, n1, l1, _, e1⟩ := implAdd_eq da db h1 h2
    obtain ⟨r', v2, d2, n2, e2⟩ := specAdd_eq da db h1 h2
    obtain rfl : r = r' := val_inj d1 d2 n1 n2 (by omega)
    have hs : ∃ q bb, q.length ≤ 1048577 ∧ spec_l1Fits.f r = some (q, bb) ∧ impl_limited.f r = some (q, bb) := by
      unfold spec_l1Fits.f impl_limited.f
      by_cases hl : (r.length : Int) > 64
      · simp only [if_pos hl]; exact ⟨[], false, by simp, rfl, rfl⟩
      · simp only [if_neg hl]; exact ⟨r, true, l1, rfl, rfl⟩
    obtain ⟨q, bb, hq, f1, f2⟩ := hs
    refine ⟨q, bb, hq, Ev.bind oa ?_, Ev.bind ar ?_⟩
    · simp only [ka, if_true]
      refine Ev.bind ob ?_
      simp only [kb, Bool.not_true]
      refine Ev.step (fun k => by rw [spec_NatAdd.j0]) ?_
      simp only [Bool.false_eq_true, if_false]
      refine Ev.bind e2 ?_
      simp only [f1, Option.bind_some]
      exact Ev.now _
    · simp only [List.all_cons, List.all_nil, ka, kb, Bool.and_true, if_true]
      refine Ev.bind e1 ?_
      simp only [f2, Option.bind_some]
      exact Ev.now _
  · have hj : Ev (fun k => spec_NatAdd.j0 k a b true) (([] : List Int), false) := by
      refine Ev.step (fun k => by rw [spec_NatAdd.j0]) ?_
      simp only [if_true]
      exact Ev.now _
    refine ⟨[], false, by simp, Ev.bind oa ?_, Ev.bind ar ?_⟩
    · cases ka : natOk a with
      | false => simpa using hj
      | true =>
        simp only [if_true]
        refine Ev.bind ob ?_
        cases kb : natOk b with
        | true => exact absurd ⟨ka, kb⟩ k
        | false => simpa using hj
    · rw [ok2 k]
      simpa using Ev.now (([] : List Int), false)
theorem FnExactNatAdd : laws_FnExactNatAdd.Pure := by
  intro a b _ _ _ _ _ _
  refine Ev.rounds (r := true) ?_
  unfold laws_FnExactNatAdd.f
  by_cases h : (a.length : Int) > 1048576
  · simp only [if_pos h]; exact Ev.now _
  by_cases h' : (b.length : Int) > 1048576
  · simp only [if_neg h, if_pos h']; exact Ev.now _
  simp only [if_neg h, if_neg h']
  have ta := toIntS_eq a (by omega)
  have tb := toIntS_eq b (by omega)
  have ea := eqIntS_eq a (by omega)
  have eb := eqIntS_eq b (by omega)
  obtain ⟨r, bb, hl, r1, r2⟩ := both a b (by omega) (by omega)
  have er := eqIntS_eq r (by omega)
  have ma := markIntS_eq a (m0 := 1) (by omega) (by omega) (by omega)
  have mb := markIntS_eq b (m0 := 1 + a.length) (by omega) (by omega) (by omega)
  have mr := markIntS_eq r (m0 := 1) (by omega) (by omega) (by omega)
  have hr := heldIntS_eq r.length (m0 := 1) (by omega) (by omega) (by omega)
  have f1 : ¬ (1 : Int) + a.length + b.length < 0 := by omega
  have f2 : ¬ (1 : Int) + r.length < 0 := by omega
  refine Ev.bind ta (Ev.bind tb (Ev.bind r1 (Ev.bind ta (Ev.bind tb (Ev.bind r2 (Ev.bind er ?_))))))
  simp only [if_true, bne_self_eq_false]
  refine Ev.step (fun k => by rw [laws_FnExactNatAdd.j0]) ?_
  simp only [Bool.false_eq_true, if_false]
  refine Ev.bind ta (Ev.bind ea ?_)
  simp only [if_true]
  refine Ev.bind tb (Ev.bind eb ?_)
  simp only [if_true]
  refine Ev.bind ma (Ev.bind mb ?_)
  simp only [if_neg f1]
  refine Ev.bind er ?_
  simp only [if_true, bne_self_eq_false]
  refine Ev.step (fun k => by rw [laws_FnExactNatAdd.j1]) ?_
  simp only [Bool.false_eq_true, if_false]
  refine Ev.bind mr (Ev.bind hr ?_)
  simp only [if_neg f2, if_true]
  refine Ev.bind ta (Ev.bind tb (Ev.bind r2 (Ev.bind er ?_)))
  simp only [if_true, bne_self_eq_false]
  refine Ev.step (fun k => by rw [laws_FnExactNatAdd.j2]) ?_
  simp only [Bool.false_eq_true, if_false]
  refine Ev.bind hr ?_
  simp only [if_neg f2, if_true]
  exact Ev.now _


end Go.Proofs.Ytohplbcbkggjaab.Pure
