/- The law FnDivided answers true at all bytes: quotient and rest come back to what was divided, and bytes and numbers to their digits. -/
import Derived.Test.YtehdmpfeddieoaaPFnDividedx9
import Derived.Test.YtehdmpfeddieoaaMDig
import Derived.Test.YtehdmpfeddieoaaMBits
import Derived.Test.YtehdmpfeddieoaaMDiv
namespace Go.Proofs.Ytehdmpfeddieoaa.Pure
open Go.RowKit Go.Proofs.Ytehdmpfeddieoaa.PFnDivided Go.Proofs.YtehdmpfeddieoaaW.PrintWords Go.Proofs.YtehdmpfeddieoaaW.PrintLast Go.Proofs.Ytehdmpfeddieoaa.Plain

set_option linter.unusedVariables false
set_option linter.unusedSimpArgs false

theorem w64 {n : Int} (h : -9223372036854775808 ≤ n) (h' : n ≤ 9223372036854775807) : wrap64 n = n := by
  unfold wrap64
  omega

theorem wf64 {n : Int} (h : (Lit.int .i64 n).wf = true) : -9223372036854775808 ≤ n ∧ n ≤ 9223372036854775807 := by
  simpa [Lit.wf, IntKind.min, IntKind.max, IntKind.signed, IntKind.bits] using h

theorem wsucc {i : Nat} (h : i ≤ 1099511627776) : wrap64 ((i : Int) + 1) = ((i + 1 : Nat) : Int) := by
  rw [w64 (by omega) (by omega)]
  omega

theorem wpred {i : Nat} (h : i ≤ 1099511627776) : wrap64 (((i + 1 : Nat) : Int) - 1) = (i : Int) := by
  rw [w64 (by omega) (by omega)]
  omega

theorem in_eq (n a b : Int) : spec_l1In.f n a b = some (decide (a ≤ n ∧ n ≤ b)) := by
  unfold spec_l1In.f
  by_cases h : n ≥ a
  · rw [if_pos h]
    have : a ≤ n := h
    simp [this]
  · rw [if_neg h]
    have : ¬ a ≤ n := h
    simp [this]

theorem within_eq (n a b : Int) : impl_within.f n a b = some (decide (a ≤ n ∧ n ≤ b)) := by
  unfold impl_within.f
  by_cases h : n ≥ a
  · rw [if_pos h]
    have : a ≤ n := h
    simp [this]
  · rw [if_neg h]
    have : ¬ a ≤ n := h
    simp [this]

theorem specNatOk_loop (l : List Int) (hl : l.length ≤ 1099511627776) : ∀ (d : Nat) (i : Int), 0 ≤ i → (l.length : Int) - i = d →
    Ev (fun k => spec_NatOk.l0 k l i) ((l.drop i.toNat).all (fun d => decide (0 ≤ d ∧ d ≤ 65535)) && decide (l.length ≤ 64) && (l.isEmpty || (l.getD (l.length - 1) 0 != 0))) := by
  intro d
  induction d with
  | zero =>
    intro i h0 hd
    refine Ev.step (fun k => by rw [spec_NatOk.l0]) ?_
    simp only [if_neg (show ¬ i < (l.length : Int) by omega)]
    rw [List.drop_eq_nil_of_le (by omega)]
    by_cases h1 : (l.length : Int) ≤ 64
    · simp only [if_pos h1, show l.length ≤ 64 by omega]
      by_cases h2 : (l.length : Int) = 0
      · obtain rfl : l = [] := List.length_eq_zero_iff.1 (by omega)
        simpa using Ev.now true
      · have e : wrap64 ((l.length : Int) - 1) = (l.length : Int) - 1 := w64 (by omega) (by omega)
        have hne : l.isEmpty = false := by cases l with | nil => simp at h2 | cons a l => rfl
        simp only [if_neg h2, e, if_pos (show 0 ≤ (l.length : Int) - 1 by omega), if_pos (show (l.length : Int) - 1 < l.length by omega), hne, rd, show ((l.length : Int) - 1).toNat = l.length - 1 by omega]
        simpa using Ev.now _
    · simp only [if_neg h1, show ¬ l.length ≤ 64 by omega]
      simpa using Ev.now false
  | succ d ih =>
    intro i h0 hd
    refine Ev.step (fun k => by rw [spec_NatOk.l0]) ?_
    have hi : i.toNat < l.length := by omega
    rw [List.drop_eq_getElem_cons hi, List.all_cons]
    have hr : rd l i = l[i.toNat] := by simp [rd, List.getD_eq_getElem?_getD, List.getElem?_eq_getElem hi]
    simp only [if_pos (show i < (l.length : Int) by omega), if_pos h0, in_eq, hr, Option.bind_some]
    by_cases h1 : 0 ≤ l[i.toNat] ∧ l[i.toNat] ≤ 65535
    · simp only [h1.1, h1.2, and_self, decide_true, if_true, Bool.true_and]
      rw [w64 (by omega) (by omega)]
      have := ih (i + 1) (by omega) (by omega)
      rwa [show (i + 1).toNat = i.toNat + 1 by omega] at this
    · simp only [h1, decide_false, Bool.false_and]
      simpa using Ev.now false

theorem specNatOk_eq (l : List Int) (hl : l.length ≤ 1099511627776) : Ev (fun k => spec_NatOk.f k l) (natOk l) := by
  unfold spec_NatOk.f natOk
  have := specNatOk_loop l hl l.length 0 (by omega) (by omega)
  rw [Int.toNat_zero, List.drop_zero] at this
  rwa [Bool.and_comm (decide (l.length ≤ 64))]

theorem allWithin_loop (l : List Int) (a b : Int) (hl : l.length ≤ 1099511627776) : ∀ (d : Nat) (i : Int), 0 ≤ i → (l.length : Int) - i = d →
    Ev (fun k => impl_allWithin.l0 k a b l (l.length : Int) i) ((l.drop i.toNat).all (fun d => decide (a ≤ d ∧ d ≤ b))) := by
  intro d
  induction d with
  | zero =>
    intro i h0 hd
    refine Ev.step (fun k => by rw [impl_allWithin.l0]) ?_
    simp only [if_neg (show ¬ i < (l.length : Int) by omega)]
    rw [List.drop_eq_nil_of_le (by omega)]
    exact Ev.now _
  | succ d ih =>
    intro i h0 hd
    refine Ev.step (fun k => by rw [impl_allWithin.l0]) ?_
    have hi : i.toNat < l.length := by omega
    rw [List.drop_eq_getElem_cons hi, List.all_cons]
    have hr : rd l i = l[i.toNat] := by simp [rd, List.getD_eq_getElem?_getD, List.getElem?_eq_getElem hi]
    simp only [if_pos (show i < (l.length : Int) by omega), if_pos h0, within_eq, hr, Option.bind_some]
    by_cases h1 : a ≤ l[i.toNat] ∧ l[i.toNat] ≤ b
    · simp only [h1.1, h1.2, and_self, decide_true, if_true, Bool.true_and]
      rw [w64 (by omega) (by omega)]
      have := ih (i + 1) (by omega) (by omega)
      rwa [show (i + 1).toNat = i.toNat + 1 by omega] at this
    · simp only [h1, decide_false, Bool.false_and]
      simpa using Ev.now false

theorem allWithin_eq (l : List Int) (a b : Int) (hl : l.length ≤ 1099511627776) : Ev (fun k => impl_allWithin.f k l a b) (l.all (fun d => decide (a ≤ d ∧ d ≤ b))) := by
  unfold impl_allWithin.f
  have := allWithin_loop l a b hl l.length 0 (by omega) (by omega)
  rwa [Int.toNat_zero, List.drop_zero] at this

theorem implNatOk_eq (l : List Int) (hl : l.length ≤ 1099511627776) : Ev (fun k => impl_NatOk.f k l) (natOk l) := by
  unfold impl_NatOk.f natOk
  by_cases h1 : (l.length : Int) ≤ 64
  · simp only [if_pos h1, show l.length ≤ 64 by omega, decide_true, Bool.true_and]
    refine Ev.bind (allWithin_eq l 0 65535 hl) ?_
    by_cases h3 : l.all (fun d => decide (0 ≤ d ∧ d ≤ 65535)) = true
    · simp only [h3, if_true, Bool.true_and]
      by_cases h2 : (l.length : Int) = 0
      · obtain rfl : l = [] := List.length_eq_zero_iff.1 (by omega)
        simpa using Ev.now true
      · have e : wrap64 ((l.length : Int) - 1) = (l.length : Int) - 1 := w64 (by omega) (by omega)
        have hne : l.isEmpty = false := by cases l with | nil => simp at h2 | cons a l => rfl
        simp only [if_neg h2, e, if_pos (show 0 ≤ (l.length : Int) - 1 by omega), if_pos (show (l.length : Int) - 1 < l.length by omega), hne, rd, show ((l.length : Int) - 1).toNat = l.length - 1 by omega]
        simpa using Ev.now _
    · simp only [h3, Bool.false_and]
      simpa using Ev.now false
  · simp only [if_neg h1, show ¬ l.length ≤ 64 by omega]
    simpa using Ev.now false

theorem specCompare_loop {a b : List Int} (ha : Dg a) (hb : Dg b) (hl : a.length = b.length) (hn : a.length ≤ 1048576) : ∀ (n : Nat) (i : Int), i = (n : Int) - 1 → n ≤ a.length →
    Ev (fun k => spec_l1Compare.l0 k a b i) (cmpI (val (a.take n)) (val (b.take n))) := by
  intro n
  induction n with
  | zero =>
    intro i hi hn
    refine Ev.step (fun k => by rw [spec_l1Compare.l0]) ?_
    simp only [if_neg (show ¬ i ≥ 0 by omega)]
    simpa [cmpI, val] using Ev.now (0 : Int)
  | succ n ih =>
    intro i hi hn'
    refine Ev.step (fun k => by rw [spec_l1Compare.l0]) ?_
    have hr : i.toNat = n := by omega
    rw [cmp_take ha hb (by omega) (by omega)]
    simp only [if_pos (show i ≥ 0 by omega), if_pos (show 0 ≤ i by omega), if_pos (show i < (a.length : Int) by omega), if_pos (show i < (b.length : Int) by omega), rd, hr]
    by_cases h1 : a.getD n 0 < b.getD n 0
    · simp only [if_pos h1]; exact Ev.now _
    · simp only [if_neg h1]
      by_cases h2 : a.getD n 0 > b.getD n 0
      · simp only [if_pos h2]; exact Ev.now _
      · simp only [if_neg h2]
        rw [w64 (by omega) (by omega)]
        exact ih (i - 1) (by omega) (by omega)

theorem specCompare_eq {a b : List Int} (ha : Dg a) (hb : Dg b) (na : Nm a) (nb : Nm b) (hn : a.length ≤ 1048576) (hn' : b.length ≤ 1048576) : Ev (fun k => spec_l1Compare.f k a b) (cmpI (val a) (val b)) := by
  unfold spec_l1Compare.f
  by_cases h : a.length = b.length
  · simp only [if_pos (show (a.length : Int) = b.length by omega)]
    rw [w64 (by omega) (by omega)]
    have := specCompare_loop ha hb h hn a.length ((a.length : Int) - 1) rfl (Nat.le_refl _)
    rwa [List.take_length, h, List.take_length, ← h] at this
  · simp only [if_neg (show ¬ (a.length : Int) = b.length by omega)]
    rw [cmp_len ha hb na nb h]
    by_cases h1 : a.length < b.length
    · simp only [if_pos (show (a.length : Int) < b.length by omega), if_pos h1]; exact Ev.now _
    · simp only [if_neg (show ¬ (a.length : Int) < b.length by omega), if_neg h1]; exact Ev.now _

theorem cmpCompare_eq (x y : Int) : cmp_Compare_int.f x y = some (cmpI x y) := by
  unfold cmp_Compare_int.f cmp_isNaN_int.f cmpI
  simp only [bne_self_eq_false, Option.bind_some, Bool.false_eq_true, if_false]
  split
  · rfl
  · split <;> rfl

theorem implCompare_loop {a b : List Int} (ha : Dg a) (hb : Dg b) (hl : a.length = b.length) (hn : a.length ≤ 1048576) : ∀ (n : Nat) (i : Int), i = (n : Int) - 1 → n ≤ a.length →
    Ev (fun k => impl_natCompare.l0 k a b i) (cmpI (val (a.take n)) (val (b.take n))) := by
  intro n
  induction n with
  | zero =>
    intro i hi hn
    refine Ev.step (fun k => by rw [impl_natCompare.l0]) ?_
    simp only [if_neg (show ¬ i ≥ 0 by omega)]
    simpa [cmpI, val] using Ev.now (0 : Int)
  | succ n ih =>
    intro i hi hn'
    refine Ev.step (fun k => by rw [impl_natCompare.l0]) ?_
    have hr : i.toNat = n := by omega
    rw [cmp_take ha hb (by omega) (by omega)]
    simp only [if_pos (show i ≥ 0 by omega), if_pos (show 0 ≤ i by omega), if_pos (show i < (a.length : Int) by omega), if_pos (show i < (b.length : Int) by omega), rd, hr, cmpCompare_eq, Option.bind_some]
    by_cases h0 : a.getD n 0 = b.getD n 0
    · simp only [if_pos h0, if_neg (show ¬ a.getD n 0 < b.getD n 0 by omega), if_neg (show ¬ a.getD n 0 > b.getD n 0 by omega)]
      rw [w64 (by omega) (by omega)]
      exact ih (i - 1) (by omega) (by omega)
    · simp only [if_neg h0]
      have : (if a.getD n 0 < b.getD n 0 then (-1 : Int) else if a.getD n 0 > b.getD n 0 then 1 else cmpI (val (a.take n)) (val (b.take n))) = cmpI (a.getD n 0) (b.getD n 0) := by
        unfold cmpI
        split
        · rfl
        · split
          · rfl
          · omega
      rw [this]
      exact Ev.now _

theorem implCompare_eq {a b : List Int} (ha : Dg a) (hb : Dg b) (na : Nm a) (nb : Nm b) (hn : a.length ≤ 1048576) (hn' : b.length ≤ 1048576) : Ev (fun k => impl_natCompare.f k a b) (cmpI (val a) (val b)) := by
  unfold impl_natCompare.f
  by_cases h : a.length = b.length
  · simp only [if_pos (show (a.length : Int) = b.length by omega)]
    rw [w64 (by omega) (by omega)]
    have := implCompare_loop ha hb h hn a.length ((a.length : Int) - 1) rfl (Nat.le_refl _)
    rwa [List.take_length, h, List.take_length, ← h] at this
  · simp only [if_neg (show ¬ (a.length : Int) = b.length by omega), cmpCompare_eq, Option.bind_some]
    rw [cmp_len ha hb na nb h]
    have : cmpI (a.length : Int) (b.length : Int) = if a.length < b.length then -1 else 1 := by
      unfold cmpI
      by_cases h1 : a.length < b.length
      · rw [if_pos (by omega), if_pos h1]
      · rw [if_neg (by omega), if_pos (by omega), if_neg h1]
    rw [this]
    exact Ev.now _

theorem indexFunc_loop (ls : List (List Int)) (hl : ls.length ≤ 1048576) (hs : ∀ l ∈ ls, l.length ≤ 1099511627776) : ∀ (d : Nat) (i : Int), 0 ≤ i → (ls.length : Int) - i = d →
    ∃ r, Ev (fun k => slices_IndexFunc_int_int.l0 k ls (ls.length : Int) i) r ∧ (0 ≤ r ↔ (ls.drop i.toNat).all natOk = false) := by
  intro d
  induction d with
  | zero =>
    intro i h0 hd
    refine ⟨-1, Ev.step (fun k => by rw [slices_IndexFunc_int_int.l0]) ?_, ?_⟩
    · simp only [if_neg (show ¬ i < (ls.length : Int) by omega)]
      exact Ev.now _
    · rw [List.drop_eq_nil_of_le (by omega)]
      simp
  | succ d ih =>
    intro i h0 hd
    have hi : i.toNat < ls.length := by omega
    have hr : rd_L1 ls i = ls[i.toNat] := by
      simp [rd_L1, List.getD_eq_getElem?_getD, List.getElem?_eq_getElem hi]
    rw [List.drop_eq_getElem_cons hi, List.all_cons]
    have hk := implNatOk_eq ls[i.toNat] (hs _ (List.getElem_mem hi))
    have hc : Ev (fun k => impl_areNats_1.f k ls[i.toNat]) (!natOk ls[i.toNat]) := by
      unfold impl_areNats_1.f
      exact Ev.bind hk (Ev.now _)
    cases hb : natOk ls[i.toNat] with
    | false =>
      rw [hb] at hc
      refine ⟨i, Ev.step (fun k => by rw [slices_IndexFunc_int_int.l0]) ?_, by simp [h0]⟩
      simp only [if_pos (show i < (ls.length : Int) by omega), if_pos h0, hr]
      refine Ev.bind hc ?_
      simpa using Ev.now i
    | true =>
      rw [hb] at hc
      obtain ⟨r, hr', he⟩ := ih (i + 1) (by omega) (by omega)
      refine ⟨r, Ev.step (fun k => by rw [slices_IndexFunc_int_int.l0]) ?_, ?_⟩
      · simp only [if_pos (show i < (ls.length : Int) by omega), if_pos h0, hr]
        refine Ev.bind hc ?_
        rw [w64 (n := i + 1) (by omega) (by omega)]
        simpa using hr'
      · rw [he, show (i + 1).toNat = i.toNat + 1 by omega]
        simp

theorem areNats_eq (ls : List (List Int)) (hl : ls.length ≤ 1048576) (hs : ∀ l ∈ ls, l.length ≤ 1099511627776) : Ev (fun k => impl_areNats.f k ls) (ls.all natOk) := by
  obtain ⟨r, hr, he⟩ := indexFunc_loop ls hl hs ls.length 0 (by omega) (by omega)
  unfold impl_areNats.f slices_ContainsFunc_int_int.f slices_IndexFunc_int_int.f
  refine Ev.bind (Ev.bind hr (Ev.now _)) ?_
  have : (!decide (r ≥ 0)) = ls.all natOk := by
    rw [Int.toNat_zero, List.drop_zero] at he
    cases hb : ls.all natOk with
    | true => rw [hb] at he; simp at he; simp; omega
    | false => rw [hb] at he; simp at he; simp; omega
  rw [this]
  exact Ev.now _

theorem ok2 {a b : List Int} (k : ¬ (natOk a = true ∧ natOk b = true)) : [a, b].all natOk = false := by
  simp only [List.all_cons, List.all_nil, Bool.and_true]
  cases ka : natOk a with
  | false => rfl
  | true =>
    cases kb : natOk b with
    | true => exact absurd ⟨ka, kb⟩ k
    | false => rfl

theorem arOf {a b : List Int} (h1 : a.length ≤ 1048576) (h2 : b.length ≤ 1048576) : Ev (fun k => impl_areNats.f k [a, b]) ([a, b].all natOk) :=
  areNats_eq [a, b] (by simp) (by intro l hl; simp at hl; rcases hl with rfl | rfl <;> omega)

theorem trimmed_loop (l : List Int) (hl : l.length ≤ 1099511627776) : ∀ (n : Nat), n ≤ l.length → Ev (fun k => impl_trimmed.l0 k l (n : Int)) (trim (l.take n)) := by
  intro n
  induction n with
  | zero =>
    intro _
    refine Ev.step (fun k => by rw [impl_trimmed.l0]) ?_
    simp only [if_neg (show ¬ ((0 : Nat) : Int) > 0 by omega), if_pos (show 0 ≤ ((0 : Nat) : Int) by omega), if_pos (show ((0 : Nat) : Int) ≤ (l.length : Int) by omega)]
    simpa [trim] using Ev.now ([] : List Int)
  | succ n ih =>
    intro hn
    refine Ev.step (fun k => by rw [impl_trimmed.l0]) ?_
    rw [take_snoc (show n < l.length by omega)]
    simp only [if_pos (show ((n + 1 : Nat) : Int) > 0 by omega), wpred (show n ≤ 1099511627776 by omega), if_pos (show 0 ≤ (n : Int) by omega), if_pos (show (n : Int) < (l.length : Int) by omega), rd, Int.toNat_natCast]
    by_cases h : l.getD n 0 = 0
    · simp only [h, if_true, trim_snoc_zero]
      exact ih (by omega)
    · simp only [if_neg h, if_pos (show 0 ≤ ((n + 1 : Nat) : Int) by omega), if_pos (show ((n + 1 : Nat) : Int) ≤ (l.length : Int) by omega), trim_snoc _ h, take_snoc (show n < l.length by omega)]
      exact Ev.now _

theorem trimmed_eq (l : List Int) (hl : l.length ≤ 1099511627776) : Ev (fun k => impl_trimmed.f k l) (trim l) := by
  have := trimmed_loop l hl l.length (Nat.le_refl _)
  rw [List.take_length] at this
  exact this

theorem norm_loop (l : List Int) (hl : l.length ≤ 1099511627776) : ∀ (n : Nat), n ≤ l.length → Ev (fun k => spec_l1Norm.l0 k l (n : Int)) (trim (l.take n)) := by
  intro n
  induction n with
  | zero =>
    intro _
    refine Ev.step (fun k => by rw [spec_l1Norm.l0]) ?_
    simp only [if_neg (show ¬ ((0 : Nat) : Int) > 0 by omega), if_pos (show 0 ≤ ((0 : Nat) : Int) by omega), if_pos (show ((0 : Nat) : Int) ≤ (l.length : Int) by omega)]
    simpa [trim] using Ev.now ([] : List Int)
  | succ n ih =>
    intro hn
    refine Ev.step (fun k => by rw [spec_l1Norm.l0]) ?_
    rw [take_snoc (show n < l.length by omega)]
    simp only [if_pos (show ((n + 1 : Nat) : Int) > 0 by omega), wpred (show n ≤ 1099511627776 by omega), if_pos (show 0 ≤ (n : Int) by omega), if_pos (show (n : Int) < (l.length : Int) by omega), rd, Int.toNat_natCast]
    by_cases h : l.getD n 0 = 0
    · simp only [h, if_true, trim_snoc_zero]
      exact ih (by omega)
    · simp only [if_neg h, if_pos (show 0 ≤ ((n + 1 : Nat) : Int) by omega), if_pos (show ((n + 1 : Nat) : Int) ≤ (l.length : Int) by omega), trim_snoc _ h, Option.bind_some, List.nil_append, List.length_nil]
      rw [if_pos (by rw [List.length_take]; omega), take_snoc (show n < l.length by omega)]
      exact Ev.now _

theorem norm_eq (l : List Int) (hl : l.length ≤ 1099511627776) : Ev (fun k => spec_l1Norm.f k l) (trim l) := by
  have := norm_loop l hl l.length (Nat.le_refl _)
  rw [List.take_length] at this
  exact this

theorem digit_eq (l : List Int) {i : Int} (h : 0 ≤ i) : spec_l1Digit.f l i = some (l.getD i.toNat 0) := by
  unfold spec_l1Digit.f
  by_cases h1 : i < (l.length : Int)
  · simp only [if_pos h1, if_pos h, rd]
  · simp only [if_neg h1]
    rw [List.getD_eq_getElem?_getD, List.getElem?_eq_none (by omega)]
    rfl

def tab8 : ByteArray := ⟨#[0, 1, 2, 2, 3, 3, 3, 3, 4, 4, 4, 4, 4, 4, 4, 4, 5, 5, 5, 5, 5, 5, 5, 5, 5, 5, 5, 5, 5, 5, 5, 5, 6, 6, 6, 6, 6, 6, 6, 6, 6, 6, 6, 6, 6, 6, 6, 6, 6, 6, 6, 6, 6, 6, 6, 6, 6, 6, 6, 6, 6, 6, 6, 6, 7, 7, 7, 7, 7, 7, 7, 7, 7, 7, 7, 7, 7, 7, 7, 7, 7, 7, 7, 7, 7, 7, 7, 7, 7, 7, 7, 7, 7, 7, 7, 7, 7, 7, 7, 7, 7, 7, 7, 7, 7, 7, 7, 7, 7, 7, 7, 7, 7, 7, 7, 7, 7, 7, 7, 7, 7, 7, 7, 7, 7, 7, 7, 7, 8, 8, 8, 8, 8, 8, 8, 8, 8, 8, 8, 8, 8, 8, 8, 8, 8, 8, 8, 8, 8, 8, 8, 8, 8, 8, 8, 8, 8, 8, 8, 8, 8, 8, 8, 8, 8, 8, 8, 8, 8, 8, 8, 8, 8, 8, 8, 8, 8, 8, 8, 8, 8, 8, 8, 8, 8, 8, 8, 8, 8, 8, 8, 8, 8, 8, 8, 8, 8, 8, 8, 8, 8, 8, 8, 8, 8, 8, 8, 8, 8, 8, 8, 8, 8, 8, 8, 8, 8, 8, 8, 8, 8, 8, 8, 8, 8, 8, 8, 8, 8, 8, 8, 8, 8, 8, 8, 8, 8, 8, 8, 8, 8, 8, 8, 8, 8, 8, 8, 8, 8, 8, 8, 8, 8, 8, 8, 8]⟩

theorem tab8_all : ∀ n : Fin 256, bt tab8 ((n.val : Nat) : Int) = ((bl n.val : Nat) : Int) := by decide +kernel

set_option maxRecDepth 100000 in
theorem tab8_eq {x : Int} (h0 : 0 ≤ x) (h1 : x < 256) : bt (⟨#[0, 1, 2, 2, 3, 3, 3, 3, 4, 4, 4, 4, 4, 4, 4, 4, 5, 5, 5, 5, 5, 5, 5, 5, 5, 5, 5, 5, 5, 5, 5, 5, 6, 6, 6, 6, 6, 6, 6, 6, 6, 6, 6, 6, 6, 6, 6, 6, 6, 6, 6, 6, 6, 6, 6, 6, 6, 6, 6, 6, 6, 6, 6, 6, 7, 7, 7, 7, 7, 7, 7, 7, 7, 7, 7, 7, 7, 7, 7, 7, 7, 7, 7, 7, 7, 7, 7, 7, 7, 7, 7, 7, 7, 7, 7, 7, 7, 7, 7, 7, 7, 7, 7, 7, 7, 7, 7, 7, 7, 7, 7, 7, 7, 7, 7, 7, 7, 7, 7, 7, 7, 7, 7, 7, 7, 7, 7, 7, 8, 8, 8, 8, 8, 8, 8, 8, 8, 8, 8, 8, 8, 8, 8, 8, 8, 8, 8, 8, 8, 8, 8, 8, 8, 8, 8, 8, 8, 8, 8, 8, 8, 8, 8, 8, 8, 8, 8, 8, 8, 8, 8, 8, 8, 8, 8, 8, 8, 8, 8, 8, 8, 8, 8, 8, 8, 8, 8, 8, 8, 8, 8, 8, 8, 8, 8, 8, 8, 8, 8, 8, 8, 8, 8, 8, 8, 8, 8, 8, 8, 8, 8, 8, 8, 8, 8, 8, 8, 8, 8, 8, 8, 8, 8, 8, 8, 8, 8, 8, 8, 8, 8, 8, 8, 8, 8, 8, 8, 8, 8, 8, 8, 8, 8, 8, 8, 8, 8, 8, 8, 8, 8, 8, 8, 8, 8, 8]⟩ : ByteArray) x = ((bl x.toNat : Nat) : Int) := by
  have := tab8_all ⟨x.toNat, by omega⟩
  unfold tab8 at this
  rw [show (((⟨x.toNat, by omega⟩ : Fin 256).val : Nat) : Int) = x from by simp; omega] at this
  exact this

theorem blI {x : Int} (k : Nat) (h : (2 : Int) ^ k ≤ x) : ((bl x.toNat : Nat) : Int) = ((bl (x / 2 ^ k).toNat : Nat) : Int) + k := by
  have h1 := bl_shift k x.toNat (by have := two_pow_int k; omega)
  have h2 : (x / 2 ^ k).toNat = x.toNat / 2 ^ k := by
    have h3 : 0 < (2 : Int) ^ k := Int.pow_pos (by omega)
    obtain ⟨n, rfl⟩ : ∃ n : Nat, x = n := ⟨x.toNat, by omega⟩
    rw [← two_pow_int, Int.toNat_natCast, ← Int.natCast_ediv, Int.toNat_natCast]
  rw [h2, h1]
  omega

set_option maxRecDepth 100000 in
theorem len64_j0 {x c : Int} (h0 : 0 ≤ x) (h1 : x < 4294967296) (c0 : 0 ≤ c) (c1 : c ≤ 1000) : Ev (fun k => bits_Len64.j0 k x c) (c + ((bl x.toNat : Nat) : Int)) := by
  refine Ev.step (fun k => by rw [bits_Len64.j0]) ?_
  have blb : ∀ y : Int, 0 ≤ y → y < 256 → ((bl y.toNat : Nat) : Int) ≤ 8 := by
    intro y y0 y1
    have := bl_le (n := y.toNat) (k := 8) (by omega)
    omega
  by_cases p1 : x ≥ 65536
  · simp only [if_pos p1]
    have e1 := blI (x := x) 16 (by omega)
    by_cases p2 : x / 65536 ≥ 256
    · have e2 := blI (x := x / 65536) 8 (by omega)
      have r0 : 0 ≤ x / 65536 / 256 := by omega
      have r1 : x / 65536 / 256 < 256 := by omega
      have r2 : x / 65536 / 256 % 256 = x / 65536 / 256 := by omega
      have b := blb (x / 65536 / 256) (by omega) (by omega)
      simp only [if_pos p2, r2, if_pos r0, if_pos r1, tab8_eq r0 r1]
      rw [w64 (n := ((bl (x / 65536 / 256).toNat : Nat) : Int)) (by omega) (by omega), w64 (n := c + 16) (by omega) (by omega), w64 (n := c + 16 + 8) (by omega) (by omega), w64 (by omega) (by omega),
        show c + 16 + 8 + ((bl (x / 65536 / 256).toNat : Nat) : Int) = c + ((bl x.toNat : Nat) : Int) by simp only [show ((2 : Int) ^ 16) = 65536 by decide, show ((2 : Int) ^ 8) = 256 by decide] at e1 e2; omega]
      exact Ev.now _
    · have r0 : 0 ≤ x / 65536 := by omega
      have r1 : x / 65536 < 256 := by omega
      have r2 : x / 65536 % 256 = x / 65536 := by omega
      have b := blb (x / 65536) (by omega) (by omega)
      simp only [if_neg p2, r2, if_pos r0, if_pos r1, tab8_eq r0 r1]
      rw [w64 (n := ((bl (x / 65536).toNat : Nat) : Int)) (by omega) (by omega), w64 (n := c + 16) (by omega) (by omega), w64 (by omega) (by omega),
        show c + 16 + ((bl (x / 65536).toNat : Nat) : Int) = c + ((bl x.toNat : Nat) : Int) by simp only [show ((2 : Int) ^ 16) = 65536 by decide] at e1; omega]
      exact Ev.now _
  · simp only [if_neg p1]
    by_cases p2 : x ≥ 256
    · have e2 := blI (x := x) 8 (by omega)
      have r0 : 0 ≤ x / 256 := by omega
      have r1 : x / 256 < 256 := by omega
      have r2 : x / 256 % 256 = x / 256 := by omega
      have b := blb (x / 256) (by omega) (by omega)
      simp only [if_pos p2, r2, if_pos r0, if_pos r1, tab8_eq r0 r1]
      rw [w64 (n := ((bl (x / 256).toNat : Nat) : Int)) (by omega) (by omega), w64 (n := c + 8) (by omega) (by omega), w64 (by omega) (by omega),
        show c + 8 + ((bl (x / 256).toNat : Nat) : Int) = c + ((bl x.toNat : Nat) : Int) by simp only [show ((2 : Int) ^ 8) = 256 by decide] at e2; omega]
      exact Ev.now _
    · have r0 : 0 ≤ x := by omega
      have r1 : x < 256 := by omega
      have r2 : x % 256 = x := by omega
      have b := blb x (by omega) (by omega)
      simp only [if_neg p2, r2, if_pos r0, if_pos r1, tab8_eq r0 r1]
      rw [w64 (n := ((bl x.toNat : Nat) : Int)) (by omega) (by omega), w64 (by omega) (by omega)]
      exact Ev.now _

theorem len_eq {x : Int} (h0 : 0 ≤ x) (h1 : x < 18446744073709551616) : Ev (fun k => bits_Len.f k x) ((bl x.toNat : Nat) : Int) := by
  unfold bits_Len.f bits_Len64.f
  by_cases p : x ≥ 4294967296
  · simp only [if_pos p]
    have e := blI (x := x) 32 (by omega)
    have := len64_j0 (x := x / 4294967296) (c := 32) (by omega) (by omega) (by omega) (by omega)
    rw [show 32 + ((bl (x / 4294967296).toNat : Nat) : Int) = ((bl x.toNat : Nat) : Int) by simp only [show ((2 : Int) ^ 32) = 4294967296 by decide] at e; omega] at this
    exact Ev.bind this (Ev.now _)
  · simp only [if_neg p]
    have := len64_j0 (x := x) (c := 0) (by omega) (by omega) (by omega) (by omega)
    rw [Int.zero_add] at this
    exact Ev.bind this (Ev.now _)

theorem u64w {x : Int} (h0 : 0 ≤ x) (h1 : x < 18446744073709551616) : IntKind.u64.wrap x = x := by
  rw [show IntKind.u64.wrap x = x % 18446744073709551616 from by simp [IntKind.wrap, IntKind.bits, IntKind.signed]]
  omega

theorem implNatOf_loop : ∀ (m : Nat) (a : Int) (x : List Int), a < 65536 ^ m → 0 ≤ a → a ≤ 9223372036854775807 → x.length + m ≤ 100 → Dg x → (a = 0 → Nm x) →
    ∃ r, r.length ≤ x.length + m ∧ Dg r ∧ Nm r ∧ val r = val x + 65536 ^ x.length * a ∧ Ev (fun k => impl_natOf.l0 k a x) r := by
  intro m
  induction m with
  | zero =>
    intro a x h1 h0 h2 h3 hd hn
    have : a = 0 := by simp at h1; omega
    subst this
    refine ⟨x, by omega, hd, hn rfl, by simp, Ev.step (fun k => by rw [impl_natOf.l0]) ?_⟩
    simp only [if_neg (show ¬ (0 : Int) > 0 by omega)]
    exact Ev.now _
  | succ m ih =>
    intro a x h1 h0 h2 h3 hd hn
    by_cases hp : a > 0
    · have e1 : a.tdiv 65536 = a / 65536 := Int.tdiv_eq_ediv_of_nonneg (by omega)
      have e2 : a.tmod 65536 = a % 65536 := Int.tmod_eq_emod_of_nonneg (by omega)
      rw [Int.pow_succ] at h1
      obtain ⟨r, hr, d, n, v, e⟩ := ih (a / 65536) (x ++ [a % 65536]) (by omega) (by omega) (by omega) (by simp; omega) (hd.snoc (by omega) (by omega)) (fun k => by
        unfold Nm
        simp
        omega)
      refine ⟨r, by simp at hr; omega, d, n, ?_, Ev.step (fun k => by rw [impl_natOf.l0]) ?_⟩
      · rw [v, val_snoc, List.length_append, List.length_singleton, Int.pow_succ]
        have : a = a % 65536 + 65536 * (a / 65536) := by omega
        generalize a % 65536 = u at *
        generalize a / 65536 = w at *
        generalize (65536 : Int) ^ x.length = P at *
        subst this
        grind
      · simp only [if_pos hp, if_pos (show x.length < 17592186044416 by omega), e1, e2]
        rw [w64 (by omega) (by omega)]
        exact e
    · have : a = 0 := by omega
      subst this
      refine ⟨x, by omega, hd, hn rfl, by simp, Ev.step (fun k => by rw [impl_natOf.l0]) ?_⟩
      simp only [if_neg (show ¬ (0 : Int) > 0 by omega)]
      exact Ev.now _

theorem implNatOf_eq {a : Int} (h0 : 0 ≤ a) (h1 : a ≤ 9223372036854775807) : ∃ r, r.length ≤ 4 ∧ Dg r ∧ Nm r ∧ val r = a ∧ Ev (fun k => impl_natOf.f k a) r := by
  obtain ⟨r, hr, d, n, v, e⟩ := implNatOf_loop 4 a [] (by omega) h0 h1 (by simp) Dg.nil (fun _ => by simp [Nm])
  exact ⟨r, by simpa using hr, d, n, by simpa [val] using v, e⟩

theorem ImplNatOf_eq {a : Int} (h0 : 0 ≤ a) (h1 : a ≤ 9223372036854775807) : ∃ r, r.length ≤ 4 ∧ Dg r ∧ Nm r ∧ val r = a ∧ Ev (fun k => impl_NatOf.f k a) (r, true) := by
  obtain ⟨r, hr, d, n, v, e⟩ := implNatOf_eq h0 h1
  refine ⟨r, hr, d, n, v, ?_⟩
  unfold impl_NatOf.f
  simp only [if_neg (show ¬ a < 0 by omega)]
  exact Ev.bind e (Ev.now _)

theorem and16 (x : Int) : Go.bits .and .i64 x 65535 = x % 65536 := by
  unfold Go.bits
  simp only [BitVec.toNat_and]
  have h : (BitVec.ofInt IntKind.i64.bits 65535).toNat = 2 ^ 16 - 1 := by decide
  rw [h, Nat.and_two_pow_sub_one_eq_mod, BitVec.toNat_ofInt, IntKind.wrap_i64, show IntKind.i64.bits = 64 from rfl]
  omega

theorem byDigit_loop {a : List Int} (ha : Dg a) (hl : a.length ≤ 1048576) {d : Int} (d1 : d ≤ 65536) : ∀ (n : Nat) (o : List Int) (left : Int), n ≤ a.length → ByIn a o d left n →
    ∃ o' left', ByIn a o' d left' 0 ∧ Ev (fun k => impl_byDigit.l0 k a d o left ((n : Int) - 1)) (trim o', left') := by
  intro n
  induction n with
  | zero =>
    intro o left _ h
    refine ⟨o, left, h, Ev.step (fun k => by rw [impl_byDigit.l0]) ?_⟩
    simp only [if_neg (show ¬ ((0 : Nat) : Int) - 1 ≥ 0 by omega)]
    have hlen := h.len
    exact Ev.bind (trimmed_eq o (by omega)) (Ev.now _)
  | succ n ih =>
    intro o left hn h
    have l0 := h.l0
    have l1 := h.l1
    have b := ha.getD n
    obtain ⟨s1, s2, s3, s4, s5⟩ := by_step l0 l1 b.1 b.2
    obtain ⟨o', left', hi, he⟩ := ih _ _ (by omega) (h.step ha (by omega))
    have hlen := h.len
    have e0 : ((n + 1 : Nat) : Int) - 1 = (n : Int) := by omega
    have w1 : wrap64 (left * 65536) = left * 65536 := w64 (by omega) (by omega)
    have w2 : wrap64 (left * 65536 + a.getD n 0) = left * 65536 + a.getD n 0 := w64 (by omega) (by omega)
    have w3 : Int.tdiv (left * 65536 + a.getD n 0) d = (left * 65536 + a.getD n 0) / d := Int.tdiv_eq_ediv_of_nonneg (by clear w1 w2; omega)
    have w4 : Int.tmod (left * 65536 + a.getD n 0) d = (left * 65536 + a.getD n 0) % d := Int.tmod_eq_emod_of_nonneg (by clear w1 w2; omega)
    have w5 : wrap64 ((left * 65536 + a.getD n 0) / d) = (left * 65536 + a.getD n 0) / d := w64 (by clear w1 w2 w3 w4; omega) (by clear w1 w2 w3 w4; omega)
    have w6 : wrap64 ((n : Int) - 1) = (n : Int) - 1 := w64 (by clear w1 w2 w3 w4 w5; omega) (by clear w1 w2 w3 w4 w5; omega)
    have q0 : ¬ d = 0 := by clear w1 w2 w3 w4 w5 w6; omega
    have q1 : (n : Int) < (a.length : Int) := by clear w1 w2 w3 w4 w5 w6; omega
    have q2 : (n : Int) < (o.length : Int) := by clear w1 w2 w3 w4 w5 w6; omega
    have q3 : (n : Int) ≥ 0 := by clear w1 w2 w3 w4 w5 w6; omega
    refine ⟨o', left', hi, Ev.step (fun k => by rw [impl_byDigit.l0]) ?_⟩
    simp only [e0, if_pos q3, if_pos q1, if_neg q0, if_pos q2, rd, Int.toNat_natCast, w1, w2, w3, w4, w5, w6]
    exact he

theorem byDigit_eq {a : List Int} (ha : Dg a) (hl : a.length ≤ 1048576) {d : Int} (d0 : 0 < d) (d1 : d ≤ 65536) :
    ∃ q left, val q * d + left = val a ∧ Dg q ∧ Nm q ∧ 0 ≤ left ∧ left < d ∧ q.length ≤ a.length ∧ Ev (fun k => impl_byDigit.f k a d) (q, left) := by
  obtain ⟨o, left, h, e⟩ := byDigit_loop ha hl d1 a.length _ 0 (Nat.le_refl _) (ByIn.start a d0)
  have := trim_len o
  have hlen := h.len
  have heq := h.eq
  rw [List.drop_zero, List.drop_zero] at heq
  refine ⟨trim o, left, by rw [trim_val]; omega, trim_dg h.dg, trim_nm o, h.l0, h.l1, by omega, ?_⟩
  unfold impl_byDigit.f
  have q0 : 0 ≤ (a.length : Int) := by omega
  have q1 : a.length ≤ 35184372088832 := by omega
  have w : wrap64 ((a.length : Int) - 1) = (a.length : Int) - 1 := w64 (by omega) (by omega)
  simp only [if_pos q0, Int.toNat_natCast, if_pos q1, w]
  exact e

theorem shl_eq {x : Int} (s : Nat) (hs : s ≤ 15) (x0 : 0 ≤ x) (x1 : x < 65536) : shl .i64 x (s : Int) = x * 2 ^ s := by
  unfold shl
  rw [Int.toNat_natCast, Nat.min_eq_left (by show s ≤ 64; omega), i64_w]
  have h1 : (1 : Int) ≤ 2 ^ s := by have h0 : (0 : Int) < 2 ^ s := Int.pow_pos (by omega); omega
  have h2 : (2 : Int) ^ s ≤ 32768 := by
    have : (2 : Nat) ^ s ≤ 2 ^ 15 := Nat.pow_le_pow_right (by omega) hs
    have h3 := two_pow_int s
    omega
  have h3 : 0 ≤ x * 2 ^ s := Int.mul_nonneg x0 (by omega)
  have h4 : x * 2 ^ s ≤ 65535 * 32768 := Int.mul_le_mul (by omega) h2 (by omega) (by omega)
  exact w64 (by omega) (by omega)

theorem pow15 {s : Nat} (hs : s ≤ 15) : (1 : Int) ≤ 2 ^ s ∧ (2 : Int) ^ s ≤ 32768 := by
  have h1 : (0 : Int) < 2 ^ s := Int.pow_pos (by omega)
  have : (2 : Nat) ^ s ≤ 2 ^ 15 := Nat.pow_le_pow_right (by omega) hs
  have h3 := two_pow_int s
  omega

theorem shifted_loop {a : List Int} (ha : Dg a) (hl : a.length ≤ 1048576) {s : Nat} (hs : s ≤ 15) : ∀ (d i : Nat) (o : List Int) (c : Int), a.length = i + d → ShIn a o (2 ^ s) c i →
    ∃ r, val r = val a * 2 ^ s ∧ Dg r ∧ r.length = a.length + 1 ∧ Ev (fun k => impl_shifted.l0 k (s : Int) o c a (a.length : Int) (i : Int)) r := by
  intro d
  have hp := pow15 hs
  induction d with
  | zero =>
    intro i o c hi h
    obtain rfl : i = a.length := by omega
    obtain ⟨len, dg, c0, c1, eq⟩ := h
    rw [List.take_length] at eq
    refine ⟨o ++ [c], by rw [val_snoc, len]; exact eq, dg.snoc c0 (by omega), by simp [len], Ev.step (fun k => by rw [impl_shifted.l0]) ?_⟩
    simp only [if_neg (show ¬ (a.length : Int) < (a.length : Int) by omega), if_pos (show o.length < 17592186044416 by omega)]
    exact Ev.now _
  | succ d ih =>
    intro i o c hi h
    have hn := h.step ha hp.2
    obtain ⟨r, v, g, l, e⟩ := ih (i + 1) _ _ (by omega) hn
    have b := ha.getD i
    have c0 := h.c0
    have c1 := h.c1
    have len := h.len
    obtain ⟨b1, b2, b3, b4⟩ := sh_bound c0 c1 b.1 b.2 hp.2
    refine ⟨r, v, g, l, Ev.step (fun k => by rw [impl_shifted.l0]) ?_⟩
    have q1 : (i : Int) < (a.length : Int) := by omega
    have q2 : 0 ≤ (i : Int) := by omega
    have q3 : 0 ≤ (s : Int) := by omega
    have q4 : o.length < 17592186044416 := by omega
    have w1 : shl .i64 (a.getD i 0) (s : Int) = a.getD i 0 * 2 ^ s := shl_eq s hs b.1 b.2
    have w2 : wrap64 (c + a.getD i 0 * 2 ^ s) = c + a.getD i 0 * 2 ^ s := w64 (by omega) (by omega)
    have w3 : Int.tmod (c + a.getD i 0 * 2 ^ s) 65536 = (c + a.getD i 0 * 2 ^ s) % 65536 := Int.tmod_eq_emod_of_nonneg b3
    have w4 : wrap64 (Int.tdiv (c + a.getD i 0 * 2 ^ s) 65536) = (c + a.getD i 0 * 2 ^ s) / 65536 := by
      rw [Int.tdiv_eq_ediv_of_nonneg b3, w64 (by clear w2; omega) (by clear w2; omega)]
    have w5 : wrap64 ((i : Int) + 1) = ((i + 1 : Nat) : Int) := wsucc (by clear w2 w4; omega)
    simp only [if_pos q1, if_pos q2, if_pos q3, if_pos q4, rd, Int.toNat_natCast, w1, w2, w3, w4, w5]
    exact e

theorem shifted_eq {a : List Int} (ha : Dg a) (hl : a.length ≤ 1048576) {s : Nat} (hs : s ≤ 15) :
    ∃ r, val r = val a * 2 ^ s ∧ Dg r ∧ r.length = a.length + 1 ∧ Ev (fun k => impl_shifted.f k a (s : Int)) r :=
  shifted_loop ha hl hs a.length 0 [] 0 (by omega) (ShIn.start a (by have := pow15 hs; omega))

theorem takeAway_loop {p d : List Int} (hd : Dg d) (hl : p.length ≤ 1048576) {q : Int} (q0 : 0 ≤ q) (q1 : q ≤ 65535) : ∀ (m i : Nat) (x : List Int) (c : Int), p.length = i + m → TakeIn p d x q c i →
    ∃ x' c', TakeIn p d x' q c' p.length ∧ Ev (fun k => impl_takeAway.l0 k x d q c (p.length : Int) (i : Int)) (decide (c' < 0), x') := by
  intro m
  induction m with
  | zero =>
    intro i x c hi h
    obtain rfl : i = p.length := by omega
    refine ⟨x, c, h, Ev.step (fun k => by rw [impl_takeAway.l0]) ?_⟩
    simp only [if_neg (show ¬ (p.length : Int) < (p.length : Int) by omega)]
    exact Ev.now _
  | succ m ih =>
    intro i x c hi h
    have hn := h.step hd q0 q1 (show i < p.length by omega)
    obtain ⟨x', c', ht, e⟩ := ih (i + 1) _ _ (by omega) hn
    have b := h.dg.getD i
    have b' := hd.getD i
    have c0 := h.c0
    have c1 := h.c1
    have len := h.len
    obtain ⟨t1, t2, t3, t4⟩ := take_bound c0 c1 b.1 b.2 b'.1 b'.2 q0 q1
    refine ⟨x', c', ht, Ev.step (fun k => by rw [impl_takeAway.l0]) ?_⟩
    have g1 : (i : Int) < (p.length : Int) := by omega
    have g2 : 0 ≤ (i : Int) := by omega
    have g3 : (i : Int) < (x.length : Int) := by omega
    have w1 : wrap64 (x.getD i 0 + c) = x.getD i 0 + c := w64 (by omega) (by omega)
    have w2 : wrap64 (q * d.getD i 0) = q * d.getD i 0 := w64 (by clear w1; omega) (by clear w1; omega)
    have w3 : wrap64 (x.getD i 0 + c - q * d.getD i 0) = x.getD i 0 + c - q * d.getD i 0 := w64 (by clear w1 w2; omega) (by clear w1 w2; omega)
    have w4 : wrap64 ((i : Int) + 1) = ((i + 1 : Nat) : Int) := wsucc (by clear w1 w2 w3; omega)
    simp only [if_pos g1, if_pos g2, if_pos g3, rd, Int.toNat_natCast, w4]
    by_cases hd' : (i : Int) < (d.length : Int)
    · simp only [if_pos hd', w1, w2, w3, and16]
      exact e
    · have z : d.getD i 0 = 0 := by
        rw [List.getD_eq_getElem?_getD, List.getElem?_eq_none (by clear w1 w2 w3 w4; omega)]
        rfl
      rw [z, Int.mul_zero, Int.sub_zero] at e
      simp only [if_neg hd', w1, and16]
      exact e

theorem takeAway_eq {p d : List Int} (hp : Dg p) (hd : Dg d) (hl : p.length ≤ 1048576) {q : Int} (q0 : 0 ≤ q) (q1 : q ≤ 65535) :
    ∃ x c, TakeIn p d x q c p.length ∧ Ev (fun k => impl_takeAway.f k p d q) (decide (c < 0), x) :=
  takeAway_loop hd hl q0 q1 p.length 0 p 0 (by omega) (TakeIn.start hp q)

theorem giveBack_loop {p d : List Int} (hd : Dg d) (hl : p.length ≤ 1048576) : ∀ (m i : Nat) (x : List Int) (c : Int), p.length = i + m → GiveIn p d x c i →
    ∃ x' c', GiveIn p d x' c' p.length ∧ Ev (fun k => impl_giveBack.l0 k x d c (p.length : Int) (i : Int)) x' := by
  intro m
  induction m with
  | zero =>
    intro i x c hi h
    obtain rfl : i = p.length := by omega
    refine ⟨x, c, h, Ev.step (fun k => by rw [impl_giveBack.l0]) ?_⟩
    simp only [if_neg (show ¬ (p.length : Int) < (p.length : Int) by omega)]
    exact Ev.now _
  | succ m ih =>
    intro i x c hi h
    have hn := h.step hd (show i < p.length by omega)
    obtain ⟨x', c', ht, e⟩ := ih (i + 1) _ _ (by omega) hn
    have b := h.dg.getD i
    have b' := hd.getD i
    have c0 := h.c0
    have c1 := h.c1
    have len := h.len
    refine ⟨x', c', ht, Ev.step (fun k => by rw [impl_giveBack.l0]) ?_⟩
    have g1 : (i : Int) < (p.length : Int) := by omega
    have g2 : 0 ≤ (i : Int) := by omega
    have g3 : (i : Int) < (x.length : Int) := by omega
    have w1 : wrap64 (c + x.getD i 0) = c + x.getD i 0 := w64 (by omega) (by omega)
    have w3 : wrap64 (c + x.getD i 0 + d.getD i 0) = c + x.getD i 0 + d.getD i 0 := w64 (by clear w1; omega) (by clear w1; omega)
    have w4 : wrap64 ((i : Int) + 1) = ((i + 1 : Nat) : Int) := wsucc (by clear w1 w3; omega)
    simp only [if_pos g1, if_pos g2, if_pos g3, rd, Int.toNat_natCast, w4]
    by_cases hd' : (i : Int) < (d.length : Int)
    · simp only [if_pos hd', w1, w3, and16]
      exact e
    · have z : d.getD i 0 = 0 := by
        rw [List.getD_eq_getElem?_getD, List.getElem?_eq_none (by clear w1 w3 w4; omega)]
        rfl
      rw [z, Int.add_zero] at e
      simp only [if_neg hd', w1, and16]
      exact e

theorem giveBack_eq {p d : List Int} (hp : Dg p) (hd : Dg d) (hl : p.length ≤ 1048576) :
    ∃ x c, GiveIn p d x c p.length ∧ Ev (fun k => impl_giveBack.f k p d) x :=
  giveBack_loop hd hl p.length 0 p 0 (by omega) (GiveIn.start hp)

/-- THE DIGIT. From a guess that is not too small the loop comes to the true digit, and leaves what is left. -/
theorem digit_loop {P D r o : List Int} {n j : Nat} {s : Int} (h : Guess P D n) (hl : P.length ≤ 1048576) (hj : j < o.length) (hjl : o.length ≤ 1048576) : ∀ (m : Nat) (q : Int), q.toNat ≤ m → 0 ≤ q → q ≤ 65535 →
    q * D.getD (n + 1) 0 ≤ P.getD (n + 2) 0 * 65536 + P.getD (n + 1) 0 → (∀ t, 0 ≤ t → t * val D ≤ val P → t ≤ q) →
    ∃ g x, 0 ≤ g ∧ g < 65536 ∧ Dg x ∧ x.length = P.length ∧ val x = val P - g * val D ∧ val x < val D ∧
      ∀ R, Ev (fun k => impl_natDiv.l0 k ((n + 2 : Nat) : Int) s (spl r j x) D (o.set j g) ((j : Int) - 1)) R →
        Ev (fun k => impl_natDiv.l1 k ((n + 2 : Nat) : Int) s r P D o (j : Int) (P.getD (n + 2) 0 * 65536 + P.getD (n + 1) 0) q) R := by
  intro m
  have hpl := h.plen
  have hdl := h.dlen
  have g1 : wrap64 (((n + 2 : Nat) : Int) - 2) = (n : Int) := by rw [w64 (by omega) (by omega)]; omega
  have g2 : wrap64 (((n + 2 : Nat) : Int) - 1) = ((n + 1 : Nat) : Int) := by rw [w64 (by omega) (by omega)]; omega
  have g3 : 0 ≤ (n : Int) := by clear g1 g2; omega
  have g4 : (n : Int) < (D.length : Int) := by clear g1 g2; omega
  have g5 : 0 ≤ ((n + 1 : Nat) : Int) := by clear g1 g2; omega
  have g6 : ((n + 1 : Nat) : Int) < (D.length : Int) := by clear g1 g2; omega
  have g7 : (n : Int) < (P.length : Int) := by clear g1 g2; omega
  have g8 : wrap64 ((j : Int) - 1) = (j : Int) - 1 := w64 (by clear g1 g2; omega) (by clear g1 g2; omega)
  have g9 : 0 ≤ (j : Int) := by clear g1 g2 g8; omega
  have g10 : (j : Int) < (o.length : Int) := by clear g1 g2 g8; omega
  have b1 := h.dd.getD n
  have b2 := h.dd.getD (n + 1)
  have b3 := h.pd.getD n
  have b4 := h.pd.getD (n + 1)
  have b5 := h.pd.getD (n + 2)
  have tests : ∀ q : Int, 0 ≤ q → q ≤ 65535 → q * D.getD (n + 1) 0 ≤ P.getD (n + 2) 0 * 65536 + P.getD (n + 1) 0 →
      (wrap64 (q * D.getD n 0) > wrap64 (wrap64 (wrap64 (P.getD (n + 2) 0 * 65536 + P.getD (n + 1) 0 - wrap64 (q * D.getD (n + 1) 0)) * 65536) + P.getD n 0) ↔ over P D n q) := by
    clear g1 g2 g8
    intro q q0 q1 q2
    have m1 : 0 ≤ q * D.getD n 0 := Int.mul_nonneg q0 b1.1
    have m2 : q * D.getD n 0 ≤ 65535 * 65535 := Int.mul_le_mul (by omega) (by omega) b1.1 (by omega)
    have m3 : 0 ≤ q * D.getD (n + 1) 0 := Int.mul_nonneg q0 b2.1
    unfold over
    generalize q * D.getD n 0 = u at *
    generalize q * D.getD (n + 1) 0 = v at *
    rw [w64 (n := u) (by omega) (by omega), w64 (n := v) (by omega) (by omega), w64 (n := _ - v) (by omega) (by omega), w64 (n := _ * 65536) (by omega) (by omega), w64 (n := _ + P.getD n 0) (by omega) (by omega)]
  induction m with
  | zero =>
    intro q qm q0 q1 q2 q3
    obtain rfl : q = 0 := by clear g1 g2 g8; omega
    have ho : ¬ over P D n 0 := h.low (by clear g1 g2 g8; omega) (by have := val_nonneg h.pd; clear g1 g2 g8; omega)
    obtain ⟨x, c, ht, e⟩ := takeAway_eq (q := 0) h.pd h.dd hl (by clear g1 g2 g8; omega) (by clear g1 g2 g8; omega)
    have hc : ¬ c < 0 := by
      intro hc
      obtain ⟨y, c2, hg, e2⟩ := giveBack_eq ht.dg h.dd (by rw [ht.len]; exact hl)
      have := h.unfit q1 q3 ho ht hc (by exact hg)
      clear g1 g2 g8
      omega
    obtain ⟨f1, f2⟩ := h.fit q1 q3 ho ht hc
    refine ⟨0, x, by clear g1 g2 g8; omega, by clear g1 g2 g8; omega, ht.dg, ht.len, f1, f2, fun R hR => Ev.step (fun k => by rw [impl_natDiv.l1]) ?_⟩
    have ht2 := (not_congr (tests 0 q0 q1 q2)).2 ho
    simp only [g1, g2, if_pos g3, if_pos g4, if_pos g5, if_pos g6, if_pos g7, rd, Int.toNat_natCast, if_neg ht2]
    refine Ev.bind e ?_
    simp only [decide_eq_true_iff, if_neg hc, if_pos g9, if_pos g10, g8]
    exact hR
  | succ m ih =>
    intro q qm q0 q1 q2 q3
    by_cases ho : over P D n q
    · have hq : 1 ≤ q := by
        rcases Int.lt_or_le 0 q with hq | hq
        · clear g1 g2 g8; omega
        · exfalso
          obtain rfl : q = 0 := by clear g1 g2 g8; omega
          exact h.low (q := 0) (by clear g1 g2 g8; omega) (by have := val_nonneg h.pd; clear g1 g2 g8; omega) ho
      have hm : (q - 1) * D.getD (n + 1) 0 = q * D.getD (n + 1) 0 - D.getD (n + 1) 0 := by rw [Int.sub_mul, Int.one_mul]
      obtain ⟨g, x, r0, r1, r2, r3, r4, r5, r6⟩ := ih (q - 1) (by clear g1 g2 g8; omega) (by clear g1 g2 g8; omega) (by clear g1 g2 g8; omega) (by clear g1 g2 g8; omega) (fun t t0 t1 => by
        have h1 := q3 t t0 t1
        have h2 : t ≠ q := by rintro rfl; exact h.low t0 t1 ho
        clear g1 g2 g8
        omega)
      refine ⟨g, x, r0, r1, r2, r3, r4, r5, fun R hR => Ev.step (fun k => by rw [impl_natDiv.l1]) ?_⟩
      have ht2 := (tests q q0 q1 q2).2 ho
      have w : wrap64 (q - 1) = q - 1 := w64 (by clear g1 g2 g8 ht2; omega) (by clear g1 g2 g8 ht2; omega)
      simp only [g1, g2, if_pos g3, if_pos g4, if_pos g5, if_pos g6, if_pos g7, rd, Int.toNat_natCast, if_pos ht2, w]
      exact r6 R hR
    · obtain ⟨x, c, ht, e⟩ := takeAway_eq (q := q) h.pd h.dd hl q0 q1
      have ht2 := (not_congr (tests q q0 q1 q2)).2 ho
      by_cases hc : c < 0
      · obtain ⟨y, c2, hg, e2⟩ := giveBack_eq ht.dg h.dd (by rw [ht.len]; exact hl)
        obtain ⟨f1, f2, f3⟩ := h.unfit q1 q3 ho ht hc hg
        refine ⟨q - 1, y, f3, by clear g1 g2 g8 ht2; omega, hg.dg, by rw [hg.len, ht.len], f1, f2, fun R hR => Ev.step (fun k => by rw [impl_natDiv.l1]) ?_⟩
        have w : wrap64 (q - 1) = q - 1 := w64 (by clear g1 g2 g8 ht2; omega) (by clear g1 g2 g8 ht2; omega)
        simp only [g1, g2, if_pos g3, if_pos g4, if_pos g5, if_pos g6, if_pos g7, rd, Int.toNat_natCast, if_neg ht2]
        refine Ev.bind e ?_
        simp only [decide_eq_true_iff, if_pos hc]
        refine Ev.bind e2 ?_
        simp only [if_pos g9, if_pos g10, g8, w]
        exact hR
      · obtain ⟨f1, f2⟩ := h.fit q1 q3 ho ht hc
        refine ⟨q, x, q0, by clear g1 g2 g8 ht2; omega, ht.dg, ht.len, f1, f2, fun R hR => Ev.step (fun k => by rw [impl_natDiv.l1]) ?_⟩
        simp only [g1, g2, if_pos g3, if_pos g4, if_pos g5, if_pos g6, if_pos g7, rd, Int.toNat_natCast, if_neg ht2]
        refine Ev.bind e ?_
        simp only [decide_eq_true_iff, if_neg hc, if_pos g9, if_pos g10, g8]
        exact hR

theorem outer_loop {N : Int} {D : List Int} {n : Nat} {s : Int} (hd : Dg D) (hD : D.length = n + 2) (hpos : 0 < D.getD (n + 1) 0) {m : Nat} (hm : m + D.length ≤ 1048576) : ∀ (i : Nat) (r o : List Int), DivInv N D r o m i →
    ∃ r' o', DivInv N D r' o' m 0 ∧ ∀ R, Ev (fun k => impl_natDiv.l0 k ((n + 2 : Nat) : Int) s r' D o' (-1)) R → Ev (fun k => impl_natDiv.l0 k ((n + 2 : Nat) : Int) s r D o ((i : Int) - 1)) R := by
  intro i
  induction i with
  | zero => exact fun r o h => ⟨r, o, h, fun R hR => hR⟩
  | succ i ih =>
    intro r o h
    have hlt := h.lt hd
    have rlen := h.rlen
    have olen := h.olen
    have im := h.im
    have G : Guess ((r.drop i).take (D.length + 1)) D n := ⟨by rw [List.length_take, List.length_drop]; omega, hD, (h.rd.drop i).take _, hd, hpos, hlt⟩
    obtain ⟨P, hP⟩ : ∃ P, P = (r.drop i).take (D.length + 1) := ⟨_, rfl⟩
    rw [← hP] at G
    have hPl := G.plen
    have b1 := G.pd.getD (n + 1)
    have b2 := G.pd.getD (n + 2)
    have b3 := hd.getD (n + 1)
    have t0 : 0 ≤ P.getD (n + 2) 0 * 65536 + P.getD (n + 1) 0 := by omega
    have t1 : P.getD (n + 2) 0 * 65536 + P.getD (n + 1) 0 ≤ 4294967295 := by omega
    have hq : mn 65535 ((P.getD (n + 2) 0 * 65536 + P.getD (n + 1) 0) / D.getD (n + 1) 0) ≤ 65535 ∧ mn 65535 ((P.getD (n + 2) 0 * 65536 + P.getD (n + 1) 0) / D.getD (n + 1) 0) ≤ (P.getD (n + 2) 0 * 65536 + P.getD (n + 1) 0) / D.getD (n + 1) 0 ∧
        (∀ t, t ≤ 65535 → t ≤ (P.getD (n + 2) 0 * 65536 + P.getD (n + 1) 0) / D.getD (n + 1) 0 → t ≤ mn 65535 ((P.getD (n + 2) 0 * 65536 + P.getD (n + 1) 0) / D.getD (n + 1) 0)) := by
      unfold mn
      split
      · exact ⟨by omega, by omega, fun t h1 h2 => h2⟩
      · exact ⟨by omega, by omega, fun t h1 h2 => h1⟩
    have hdiv : 0 ≤ (P.getD (n + 2) 0 * 65536 + P.getD (n + 1) 0) / D.getD (n + 1) 0 := Int.ediv_nonneg t0 (by omega)
    have hdiv1 : (P.getD (n + 2) 0 * 65536 + P.getD (n + 1) 0) / D.getD (n + 1) 0 ≤ 4294967295 := by
      have := Int.ediv_le_self (D.getD (n + 1) 0) t0
      omega
    obtain ⟨hq1, hq2, hq3⟩ := hq
    have hq0 := hq3 0 (by omega) hdiv
    obtain ⟨g, x, g0, g1, xd, xl, xv, xlt, hr⟩ := digit_loop (r := r) (o := o) (j := i) (s := s) G (by omega) (by omega) (by omega) _ _ (Nat.le_refl _) hq0 hq1
      (by rw [Int.le_ediv_iff_mul_le hpos] at hq2; exact hq2) (fun t h0 h1 => (fun hf => hq3 t hf.1 hf.2) (G.first h0 h1))
    have hs := h.step hd (x := x) (q := g) xd (by rw [xl, hPl, hD]) g0 g1 (by rw [← hP]; exact xv) xlt
    obtain ⟨r', o', hfin, hrec⟩ := ih (spl r i x) (o.set i g) hs
    refine ⟨r', o', hfin, fun R hR => Ev.step (fun k => by rw [impl_natDiv.l0]) ?_⟩
    have key := hr R (hrec R hR)
    clear hr hrec hs ih hfin hR
    have e0 : ((i + 1 : Nat) : Int) - 1 = (i : Int) := by omega
    have e1 : wrap64 (wrap64 ((i : Int) + ((n + 2 : Nat) : Int)) + 1) = ((i + (n + 3) : Nat) : Int) := by
      rw [w64 (n := (i : Int) + _) (by omega) (by omega), w64 (by omega) (by omega)]
      omega
    have e2 : pt_ r (i : Int) ((i + (n + 3) : Nat) : Int) = P := by
      rw [hP, hD]
      unfold pt_
      rw [Int.toNat_natCast, Int.toNat_natCast, show i + (n + 3) - i = n + 2 + 1 by clear e1; omega]
    have e3 : wrap64 (((n + 2 : Nat) : Int) - 1) = ((n + 1 : Nat) : Int) := by rw [w64 (by clear e1; omega) (by clear e1; omega)]; clear e1; omega
    have e4 : wrap64 (P.getD (n + 2) 0 * 65536) = P.getD (n + 2) 0 * 65536 := w64 (by clear e1 e3; omega) (by clear e1 e3; omega)
    have e5 : wrap64 (P.getD (n + 2) 0 * 65536 + P.getD (n + 1) 0) = P.getD (n + 2) 0 * 65536 + P.getD (n + 1) 0 := w64 (by clear e1 e3 e4; omega) (by clear e1 e3 e4; omega)
    have e6 : wrap64 (Int.tdiv (P.getD (n + 2) 0 * 65536 + P.getD (n + 1) 0) (D.getD (n + 1) 0)) = (P.getD (n + 2) 0 * 65536 + P.getD (n + 1) 0) / D.getD (n + 1) 0 := by
      rw [Int.tdiv_eq_ediv_of_nonneg t0, w64 (by clear e1 e3 e4 e5; omega) (by clear e1 e3 e4 e5; omega)]
    have c1 : (i : Int) ≥ 0 := by clear e1 e3 e4 e5 e6; omega
    have c2 : (i : Int) ≤ ((i + (n + 3) : Nat) : Int) := by clear e1 e3 e4 e5 e6; omega
    have c3 : ((i + (n + 3) : Nat) : Int) ≤ (r.length : Int) := by clear e1 e3 e4 e5 e6; omega
    have c4 : 0 ≤ ((n + 2 : Nat) : Int) := by clear e1 e3 e4 e5 e6; omega
    have c5 : ((n + 2 : Nat) : Int) < (P.length : Int) := by clear e1 e3 e4 e5 e6; omega
    have c6 : 0 ≤ ((n + 1 : Nat) : Int) := by clear e1 e3 e4 e5 e6; omega
    have c7 : ((n + 1 : Nat) : Int) < (P.length : Int) := by clear e1 e3 e4 e5 e6; omega
    have c8 : ((n + 1 : Nat) : Int) < (D.length : Int) := by clear e1 e3 e4 e5 e6; omega
    have c9 : ¬ D.getD (n + 1) 0 = 0 := by clear e1 e3 e4 e5 e6; omega
    simp only [e0, if_pos c1, e1, if_pos c2, if_pos c3, if_pos c4, e2, if_pos c5, e3, if_pos c6, if_pos c7, if_pos c8, rd, Int.toNat_natCast, if_neg c9, e4, e5, e6]
    exact key

theorem clone_eq {a : List Int} (hl : a.length ≤ 1048576) : slices_Clone_int.f a = some a := by
  unfold slices_Clone_int.f
  rw [if_pos (by omega)]

/-- THE DIVISION: how often, and what is left. -/
theorem natDiv_eq {a b : List Int} (ha : Dg a) (hb : Dg b) (na : Nm a) (nb : Nm b) (hne : b ≠ []) (h1 : a.length ≤ 1000000) (h2 : b.length ≤ 1000000) :
    ∃ q r, val q * val b + val r = val a ∧ val r < val b ∧ Dg q ∧ Nm q ∧ Dg r ∧ Nm r ∧ q.length ≤ a.length + 1 ∧ r.length ≤ 1000001 ∧ Ev (fun k => impl_natDiv.f k a b) (q, r) := by
  have cs := implCompare_eq ha hb na nb (by omega) (by omega)
  have bl0 := List.length_pos_iff.2 hne
  unfold impl_natDiv.f
  by_cases hlt : val a < val b
  · have e : cmpI (val a) (val b) < 0 := by unfold cmpI; rw [if_pos hlt]; decide
    refine ⟨[], a, by simp [val], hlt, Dg.nil, by simp [Nm], ha, na, by simp, by omega, Ev.bind cs ?_⟩
    simp only [if_pos e, clone_eq (show a.length ≤ 1048576 by omega), Option.bind_some]
    exact Ev.now _
  · have e : ¬ cmpI (val a) (val b) < 0 := by unfold cmpI; rw [if_neg hlt]; split <;> decide
    have hll := len_le_of_val ha hb nb (show val b ≤ val a by omega)
    by_cases hl1 : b.length = 1
    · have lp := last_pos hb nb hne
      rw [hl1] at lp
      have b0 := hb.getD 0
      have vb : val b = b.getD 0 0 := by
        obtain ⟨d, rfl⟩ : ∃ d, b = [d] := List.length_eq_one_iff.1 hl1
        simp [val]
      obtain ⟨q, left, v, qd, qn, l0, l1, ql, e1⟩ := byDigit_eq ha (by omega) (d := b.getD 0 0) lp (by omega)
      obtain ⟨r, rl, rd', rn, rv, e2⟩ := implNatOf_eq (a := left) l0 (by omega)
      refine ⟨q, r, by rw [vb, rv]; exact v, by rw [vb, rv]; exact l1, qd, qn, rd', rn, by omega, by omega, Ev.bind cs ?_⟩
      have c1 : (b.length : Int) = 1 := by omega
      have c2 : (0 : Int) < (b.length : Int) := by omega
      simp only [if_neg e, if_pos c1, if_pos c2, rd, Int.toNat_zero]
      refine Ev.bind e1 ?_
      exact Ev.bind e2 (Ev.now _)
    · obtain ⟨n, hn⟩ : ∃ n, b.length = n + 2 := ⟨b.length - 2, by omega⟩
      have lp := last_pos hb nb hne
      have lb := hb.getD (b.length - 1)
      obtain ⟨L, hL⟩ : ∃ L, L = bl (b.getD (b.length - 1) 0).toNat := ⟨_, rfl⟩
      have hL16 : L ≤ 16 := by rw [hL]; exact bl_le (by omega)
      have hL1 : 1 ≤ L := by rw [hL, bl_pos (by omega)]; omega
      have hLlt : b.getD (b.length - 1) 0 + 1 ≤ 2 ^ L := by
        have h3 := bl_lt (b.getD (b.length - 1) 0).toNat
        rw [← hL] at h3
        have h4 := two_pow_int L
        omega
      have hs15 : 16 - L ≤ 15 := by omega
      have hp := pow15 hs15
      have hprod : (2 : Int) ^ L * 2 ^ (16 - L) = 65536 := by
        rw [← Int.pow_add, show L + (16 - L) = 16 by omega]
        decide
      have hlong : val b * 2 ^ (16 - L) < 65536 ^ b.length := long_lt hb hne (by omega) (by
        have := Int.mul_le_mul_of_nonneg_right hLlt (show (0 : Int) ≤ 2 ^ (16 - L) by omega)
        omega)
      obtain ⟨r0, r0v, r0d, r0l, e2⟩ := shifted_eq ha (by omega) hs15
      obtain ⟨d0, d0v, d0d, d0l, e3⟩ := shifted_eq hb (by omega) hs15
      have hdtake : val (d0.take b.length) = val b * 2 ^ (16 - L) := by
        have h3 := val_split d0 (i := b.length) (by omega)
        have h4 := val_nonneg (d0d.drop b.length)
        have h5 := val_nonneg (d0d.take b.length)
        have h6 : val (d0.drop b.length) = 0 := by
          rcases Int.lt_or_le 0 (val (d0.drop b.length)) with h7 | h7
          · have : 65536 ^ b.length * 1 ≤ 65536 ^ b.length * val (d0.drop b.length) := Int.mul_le_mul_of_nonneg_left (by omega) (Int.le_of_lt (pow_pos' _))
            omega
          · omega
        rw [h6] at h3
        omega
      have hdlen : (d0.take b.length).length = b.length := by rw [List.length_take]; omega
      obtain ⟨D, hD⟩ : ∃ D, D = d0.take b.length := ⟨_, rfl⟩
      have Dd : Dg D := by rw [hD]; exact d0d.take _
      rw [← hD] at hdtake hdlen
      have start := DivInv.start ha hb nb hne (t := 2 ^ (16 - L)) (by omega) r0d Dd r0l hdlen r0v hdtake hll
      have Dpos : 0 < D.getD (n + 1) 0 := by
        have h3 := Dd.getD (n + 1)
        rcases Int.lt_or_le 0 (D.getD (n + 1) 0) with h4 | h4
        · exact h4
        · exfalso
          have h5 : D.getD (n + 1) 0 = 0 := by omega
          have h6 := val_take_succ' D (n + 1)
          rw [show n + 1 + 1 = D.length by omega, List.take_length, h5, Int.mul_zero, Int.add_zero] at h6
          have h7 := (val_take_lt Dd (i := n + 1) (by omega)).2
          have h8 := val_ge hb nb hne
          rw [show b.length - 1 = n + 1 by omega] at h8
          have h9 : val b * 1 ≤ val b * 2 ^ (16 - L) := Int.mul_le_mul_of_nonneg_left (by omega) (val_nonneg hb)
          omega
      obtain ⟨r', o', fin, hrec⟩ := outer_loop (s := ((16 - L : Nat) : Int)) Dd (by omega) Dpos (by omega) (r0.length - D.length) _ _ start
      obtain ⟨f1, f2, f3⟩ := fin.done Dd
      have r'l := fin.rlen
      have o'l := fin.olen
      have T1 := trimmed_eq (r'.take (n + 2)) (by rw [List.length_take]; omega)
      have T2 := trimmed_eq o' (by omega)
      have tl := trim_len (r'.take (n + 2))
      rw [List.length_take] at tl
      obtain ⟨x, left, xv, xd, xn, l0, l1, xl, e4⟩ := byDigit_eq (a := trim (r'.take (n + 2))) (trim_dg (fin.rd.take _)) (by omega) (d := 2 ^ (16 - L)) (by omega) (by omega)
      rw [trim_val] at xv
      rw [show D.length = n + 2 by omega] at f1
      rw [f1] at xv
      rw [hdtake] at f2 f3
      obtain ⟨g1, g2, g3⟩ := div_back (by omega) f3 xv l0 l1 f2
      have tlo := trim_len o'
      refine ⟨trim o', x, by rw [trim_val]; exact g2, g3, trim_dg fin.od, trim_nm o', xd, xn, by omega, by omega, Ev.bind cs ?_⟩
      have w1 : wrap64 ((b.length : Int) - 1) = ((b.length - 1 : Nat) : Int) := by rw [w64 (by omega) (by omega)]; omega
      have c1 : ¬ (b.length : Int) = 1 := by clear w1; omega
      have c2 : 0 ≤ ((b.length - 1 : Nat) : Int) := by clear w1; omega
      have c3 : ((b.length - 1 : Nat) : Int) < (b.length : Int) := by clear w1; omega
      have c4 : 0 ≤ (b.length : Int) := by clear w1; omega
      have c5 : (b.length : Int) ≤ (d0.length : Int) := by clear w1; omega
      have w2 : wrap64 ((r0.length : Int) - (b.length : Int)) = ((r0.length - D.length : Nat) : Int) := by clear w1; rw [w64 (by omega) (by omega)]; omega
      have c6 : 0 ≤ ((r0.length - D.length : Nat) : Int) := by clear w1 w2; omega
      have c7 : r0.length - D.length ≤ 35184372088832 := by clear w1 w2; omega
      have w3 : wrap64 (16 - (L : Int)) = ((16 - L : Nat) : Int) := by clear w1 w2; rw [w64 (by omega) (by omega)]; omega
      have w4 : wrap64 (((r0.length - D.length : Nat) : Int) - 1) = ((r0.length - D.length : Nat) : Int) - 1 := by clear w1 w2 w3; exact w64 (by omega) (by omega)
      have w5 : (b.length : Int) = ((n + 2 : Nat) : Int) := by clear w1 w2 w3 w4; omega
      simp only [if_neg e, if_neg c1, w1, if_pos c2, if_pos c3, rd, Int.toNat_natCast]
      clear w1
      rw [u64w (by clear w2 w3 w4; omega) (by clear w2 w3 w4; omega)]
      refine Ev.bind (len_eq (by clear w2 w3 w4; omega) (by clear w2 w3 w4; omega)) ?_
      rw [← hL]
      simp only [w3]
      refine Ev.bind e2 ?_
      refine Ev.bind e3 ?_
      simp only [if_pos c4, if_pos c5, w2, if_pos c6, Int.toNat_natCast, if_pos c7, Option.bind_some, List.length_replicate, w4, ← hD]
      simp only [w5]
      refine hrec _ (Ev.step (fun k => by rw [impl_natDiv.l0]) ?_)
      have d1 : ¬ (-1 : Int) ≥ 0 := by clear w2 w3 w4; omega
      have d2 : 0 ≤ ((n + 2 : Nat) : Int) := by clear w2 w3 w4; omega
      have d3 : ((n + 2 : Nat) : Int) ≤ (r'.length : Int) := by clear w2 w3 w4; omega
      have d4 : 0 ≤ ((16 - L : Nat) : Int) := by clear w2 w3 w4; omega
      have w6 : shl .i64 1 ((16 - L : Nat) : Int) = 2 ^ (16 - L) := by
        clear w2 w3 w4
        rw [shl_eq (x := 1) (16 - L) hs15 (by omega) (by omega), Int.one_mul]
      simp only [if_neg d1, if_pos d2, if_pos d3, Int.toNat_natCast]
      refine Ev.bind T1 ?_
      simp only [if_pos d4, w6]
      refine Ev.bind e4 ?_
      exact Ev.bind T2 (Ev.now _)

theorem specSub_loop {a b : List Int} (ha : Dg a) (hb : Dg b) (nb : Nm b) (hv : val b ≤ val a) (h1 : a.length ≤ 1048576) : ∀ (d i : Nat) (x : List Int) (c : Int), a.length = i + d → SubInv a b x c i →
    ∃ r, val r = val a - val b ∧ Dg r ∧ r.length = a.length ∧ Ev (fun k => spec_l1Sub.l0 k a b x c (i : Int)) (trim r) := by
  intro d
  induction d with
  | zero =>
    intro i x c hi h
    obtain rfl : i = a.length := by omega
    refine ⟨x, h.done ha hb nb hv, h.dg, h.len, Ev.step (fun k => by rw [spec_l1Sub.l0]) ?_⟩
    simp only [if_neg (show ¬ (a.length : Int) < (a.length : Int) by omega)]
    exact Ev.bind (norm_eq x (by rw [h.len]; omega)) (Ev.now _)
  | succ d ih =>
    intro i x c hi h
    have b1 := ha.getD i
    have b2 := hb.getD i
    have c0 := h.c0
    have c1 := h.c1
    have len := h.len
    have sw : a.getD i 0 - b.getD i 0 - c = a.getD i 0 - c - b.getD i 0 := by omega
    by_cases hlt : a.getD i 0 - c - b.getD i 0 < 0
    · obtain ⟨r, v, g, l, e⟩ := ih (i + 1) _ _ (by omega) (h.step_lt ha hb hlt)
      refine ⟨r, v, g, l, Ev.step (fun k => by rw [spec_l1Sub.l0]) ?_⟩
      simp only [if_pos (show (i : Int) < (a.length : Int) by omega), if_pos (show 0 ≤ (i : Int) by omega), digit_eq _ (show 0 ≤ (i : Int) by omega), Option.bind_some, rd, Int.toNat_natCast, wsucc (show i ≤ 1099511627776 by omega)]
      rw [w64 (n := a.getD i 0 - b.getD i 0) (by omega) (by omega), sw, w64 (n := a.getD i 0 - c - b.getD i 0) (by omega) (by omega)]
      simp only [if_pos hlt, if_pos (show x.length < 17592186044416 by omega)]
      rw [w64 (by omega) (by omega)]
      exact e
    · obtain ⟨r, v, g, l, e⟩ := ih (i + 1) _ _ (by omega) (h.step_ge ha hb hlt)
      refine ⟨r, v, g, l, Ev.step (fun k => by rw [spec_l1Sub.l0]) ?_⟩
      simp only [if_pos (show (i : Int) < (a.length : Int) by omega), if_pos (show 0 ≤ (i : Int) by omega), digit_eq _ (show 0 ≤ (i : Int) by omega), Option.bind_some, rd, Int.toNat_natCast, wsucc (show i ≤ 1099511627776 by omega)]
      rw [w64 (n := a.getD i 0 - b.getD i 0) (by omega) (by omega), sw, w64 (n := a.getD i 0 - c - b.getD i 0) (by omega) (by omega)]
      simp only [if_neg hlt, if_pos (show x.length < 17592186044416 by omega)]
      exact e

theorem specSub_eq {a b : List Int} (ha : Dg a) (hb : Dg b) (nb : Nm b) (hv : val b ≤ val a) (h1 : a.length ≤ 1048576) :
    ∃ r, val r = val a - val b ∧ Dg r ∧ Nm r ∧ r.length ≤ a.length ∧ Ev (fun k => spec_l1Sub.f k a b) r := by
  obtain ⟨r, v, d, l, e⟩ := specSub_loop ha hb nb hv h1 a.length 0 [] 0 (by omega) (SubInv.start a b)
  have := trim_len r
  exact ⟨trim r, by rw [trim_val, v], trim_dg d, trim_nm r, by omega, e⟩

/-- Digits times a digit. -/
structure TimIn (a o : List Int) (q c : Int) (i : Nat) : Prop where
  len : o.length = i
  dg : Dg o
  c0 : 0 ≤ c
  c1 : c ≤ 65535
  eq : val o + 65536 ^ i * c = val (a.take i) * q

theorem tim_bound {c x q : Int} (c0 : 0 ≤ c) (c1 : c ≤ 65535) (x0 : 0 ≤ x) (x1 : x < 65536) (q0 : 0 ≤ q) (q1 : q ≤ 65535) :
    0 ≤ x * q ∧ x * q ≤ 4294836225 ∧ 0 ≤ x * q + c ∧ (x * q + c) / 65536 ≤ 65535 := by
  have h1 : 0 ≤ x * q := Int.mul_nonneg x0 q0
  have h2 : x * q ≤ 65535 * 65535 := Int.mul_le_mul (by omega) (by omega) q0 (by omega)
  omega

theorem TimIn.step {a o : List Int} {q c : Int} {i : Nat} (ha : Dg a) (q0 : 0 ≤ q) (q1 : q ≤ 65535) (h : TimIn a o q c i) :
    TimIn a (o ++ [(a.getD i 0 * q + c) % 65536]) q ((a.getD i 0 * q + c) / 65536) (i + 1) := by
  obtain ⟨len, dg, c0, c1, eq⟩ := h
  have b := ha.getD i
  obtain ⟨h1, h2, h3, h4⟩ := tim_bound c0 c1 b.1 b.2 q0 q1
  refine ⟨by simp [len], dg.snoc (by omega) (by omega), by omega, h4, ?_⟩
  rw [val_snoc, len, val_take_succ', Int.pow_succ]
  have e : (a.getD i 0 * q + c) % 65536 + 65536 * ((a.getD i 0 * q + c) / 65536) = a.getD i 0 * q + c := by omega
  generalize (a.getD i 0 * q + c) % 65536 = m at *
  generalize (a.getD i 0 * q + c) / 65536 = r at *
  generalize (65536 : Int) ^ i = P at *
  generalize a.getD i 0 = y at *
  generalize val (a.take i) = z at *
  clear h1 h2 h3 h4 b c0 c1 dg len ha q0 q1
  grind

theorem times_loop {a : List Int} (ha : Dg a) (hl : a.length ≤ 1048576) {q : Int} (q0 : 0 ≤ q) (q1 : q ≤ 65535) : ∀ (m i : Nat) (o : List Int) (c : Int), a.length + 1 = i + m → TimIn a o q c i →
    ∃ r, val r = val a * q ∧ Dg r ∧ Nm r ∧ r.length ≤ a.length + 1 ∧ Ev (fun k => spec_l1Times.l0 k a q o c (i : Int)) r := by
  intro m
  induction m with
  | zero =>
    intro i o c hi h
    obtain rfl : i = a.length + 1 := by omega
    have len := h.len
    have hv := h.eq
    rw [List.take_of_length_le (by omega)] at hv
    have c0 : c = 0 := by
      rcases Int.lt_or_le 0 c with h1 | h1
      · exfalso
        have h2 : 65536 ^ (a.length + 1) * 1 ≤ 65536 ^ (a.length + 1) * c := Int.mul_le_mul_of_nonneg_left (by omega) (Int.le_of_lt (pow_pos' _))
        have h3 := val_lt ha
        have h4 := val_nonneg h.dg
        have h5 : val a * q ≤ val a * 65536 := Int.mul_le_mul_of_nonneg_left (by omega) (val_nonneg ha)
        rw [Int.pow_succ] at h2 hv
        omega
      · have := h.c0
        omega
    subst c0
    have tl := trim_len o
    refine ⟨trim o, by rw [trim_val]; omega, trim_dg h.dg, trim_nm o, by omega, Ev.step (fun k => by rw [spec_l1Times.l0]) ?_⟩
    have g1 : ¬ ((a.length + 1 : Nat) : Int) < (a.length : Int) := by omega
    have g2 : ¬ (0 : Int) > 0 := by omega
    simp only [if_neg g1, if_neg g2]
    exact Ev.bind (norm_eq o (by omega)) (Ev.now _)
  | succ m ih =>
    intro i o c hi h
    have len := h.len
    have c0 := h.c0
    have c1 := h.c1
    have b := ha.getD i
    obtain ⟨h1, h2, h3, h4⟩ := tim_bound c0 c1 b.1 b.2 q0 q1
    have w1 : wrap64 (a.getD i 0 * q) = a.getD i 0 * q := w64 (by omega) (by omega)
    have w2 : wrap64 (a.getD i 0 * q + c) = a.getD i 0 * q + c := w64 (by clear w1; omega) (by clear w1; omega)
    have w3 : Int.tmod (a.getD i 0 * q + c) 65536 = (a.getD i 0 * q + c) % 65536 := Int.tmod_eq_emod_of_nonneg h3
    have w4 : wrap64 (Int.tdiv (a.getD i 0 * q + c) 65536) = (a.getD i 0 * q + c) / 65536 := by
      rw [Int.tdiv_eq_ediv_of_nonneg h3, w64 (by clear w1 w2; omega) (by clear w1 w2; omega)]
    have w5 : wrap64 ((i : Int) + 1) = ((i + 1 : Nat) : Int) := wsucc (by clear w1 w2 w4; omega)
    have g3 : o.length < 17592186044416 := by clear w1 w2 w4 w5; omega
    have dg : spec_l1Digit.f a (i : Int) = some (a.getD i 0) := by
      rw [digit_eq a (by clear w1 w2 w4 w5; omega), Int.toNat_natCast]
    by_cases hlt : (i : Int) < (a.length : Int)
    · obtain ⟨r, v, d, n, l, e⟩ := ih (i + 1) _ _ (by clear w1 w2 w4 w5; omega) (h.step ha q0 q1)
      refine ⟨r, v, d, n, l, Ev.step (fun k => by rw [spec_l1Times.l0]) ?_⟩
      simp only [if_pos hlt, dg, Option.bind_some, if_pos g3, w1, w2, w3, w4, w5]
      exact e
    · by_cases hc : c > 0
      · obtain ⟨r, v, d, n, l, e⟩ := ih (i + 1) _ _ (by clear w1 w2 w4 w5; omega) (h.step ha q0 q1)
        refine ⟨r, v, d, n, l, Ev.step (fun k => by rw [spec_l1Times.l0]) ?_⟩
        simp only [if_neg hlt, if_pos hc, dg, Option.bind_some, if_pos g3, w1, w2, w3, w4, w5]
        exact e
      · have hv := h.eq
        rw [List.take_of_length_le (by clear w1 w2 w4 w5; omega), show c = 0 by clear w1 w2 w4 w5; omega] at hv
        have tl := trim_len o
        refine ⟨trim o, by rw [trim_val]; clear w1 w2 w4 w5; omega, trim_dg h.dg, trim_nm o, by clear w1 w2 w4 w5; omega, Ev.step (fun k => by rw [spec_l1Times.l0]) ?_⟩
        simp only [if_neg hlt, if_neg hc]
        exact Ev.bind (norm_eq o (by clear w1 w2 w4 w5; omega)) (Ev.now _)

theorem times_eq {a : List Int} (ha : Dg a) (hl : a.length ≤ 1048576) {q : Int} (q0 : 0 ≤ q) (q1 : q ≤ 65535) :
    ∃ r, val r = val a * q ∧ Dg r ∧ Nm r ∧ r.length ≤ a.length + 1 ∧ Ev (fun k => spec_l1Times.f k a q) r :=
  times_loop ha hl q0 q1 (a.length + 1) 0 [] 0 (by omega) ⟨rfl, Dg.nil, by omega, by omega, by simp [val]⟩

/-- THE HALVING: it comes to the greatest digit whose product is not above what is left. -/
theorem halving {a b o x : List Int} {i Q : Int} (hb : Dg b) (hbl : b.length ≤ 1000000) (hx : Dg x) (nx : Nm x) (hxl : x.length ≤ 1000001) (hQ : ∀ t : Int, t * val b ≤ val x ↔ t ≤ Q) : ∀ (m : Nat) (lo hi : Int), (hi - lo).toNat ≤ m → 0 ≤ lo → hi ≤ 65535 → lo ≤ Q → Q ≤ hi →
    ∀ R, Ev (fun k => spec_l1Div.l1 k a b o x i Q Q) R → Ev (fun k => spec_l1Div.l1 k a b o x i lo hi) R := by
  intro m
  induction m with
  | zero =>
    intro lo hi hm h0 h1 h2 h3 R hR
    obtain rfl : lo = Q := by omega
    obtain rfl : hi = lo := by omega
    exact hR
  | succ m ih =>
    intro lo hi hm h0 h1 h2 h3 R hR
    by_cases hlt : lo < hi
    · have w : wrap64 (Int.tdiv (wrap64 (wrap64 (lo + hi) + 1)) 2) = (lo + hi + 1) / 2 := by
        rw [w64 (n := lo + hi) (by omega) (by omega), w64 (n := lo + hi + 1) (by omega) (by omega), Int.tdiv_eq_ediv_of_nonneg (by omega), w64 (by omega) (by omega)]
      obtain ⟨M, hM⟩ : ∃ M, M = (lo + hi + 1) / 2 := ⟨_, rfl⟩
      rw [← hM] at w
      obtain ⟨r, rv, rd', rn, rl, e⟩ := times_eq hb (by clear w; omega) (q := M) (by clear w; omega) (by clear w; omega)
      have cs := specCompare_eq rd' hx rn nx (by clear w; omega) (by clear w; omega)
      have w2 : wrap64 (M - 1) = M - 1 := w64 (by clear w; omega) (by clear w; omega)
      have hq := hQ M
      rw [Int.mul_comm, ← rv] at hq
      refine Ev.step (fun k => by rw [spec_l1Div.l1]) ?_
      simp only [if_pos hlt, w, w2]
      refine Ev.bind e ?_
      refine Ev.bind cs ?_
      by_cases hc : val r ≤ val x
      · have ec : cmpI (val r) (val x) ≤ 0 := by unfold cmpI; split <;> (try split) <;> (clear w w2; omega)
        have hM1 := hq.1 hc
        simp only [if_pos ec]
        exact ih M hi (by clear w w2; omega) (by clear w w2; omega) h1 hM1 h3 R hR
      · have ec : ¬ cmpI (val r) (val x) ≤ 0 := by unfold cmpI; rw [if_neg (by clear w w2; omega), if_pos (by clear w w2; omega)]; clear w w2; omega
        have hM1 : ¬ M ≤ Q := fun h => hc (hq.2 h)
        simp only [if_neg ec]
        exact ih lo (M - 1) (by clear w w2; omega) h0 (by clear w w2; omega) h2 (by clear w w2; omega) R hR
    · obtain rfl : lo = Q := by omega
      obtain rfl : hi = lo := by omega
      exact hR

theorem specDiv_loop {a b : List Int} (ha : Dg a) (hb : Dg b) (nb : Nm b) (hp : 0 < val b) (hal : a.length ≤ 1000000) (hbl : b.length ≤ 1000000) : ∀ (i : Nat) (o x : List Int), i ≤ a.length → Dg x → Nm x → ByIn a o (val b) (val x) i →
    ∃ q r, ByIn a q (val b) (val r) 0 ∧ Dg r ∧ Nm r ∧ Ev (fun k => spec_l1Div.l0 k a b o x ((i : Int) - 1)) (trim q, r) := by
  intro i
  induction i with
  | zero =>
    intro o x _ hx nx h
    have hlen := h.len
    refine ⟨o, x, h, hx, nx, Ev.step (fun k => by rw [spec_l1Div.l0]) ?_⟩
    simp only [if_neg (show ¬ ((0 : Nat) : Int) - 1 ≥ 0 by omega)]
    exact Ev.bind (norm_eq o (by omega)) (Ev.now _)
  | succ i ih =>
    intro o x hi hx nx h
    have hlen := h.len
    have l0 := h.l0
    have l1 := h.l1
    have bb := ha.getD i
    have hxl : x.length ≤ b.length := len_le_of_val hb hx nx (by omega)
    obtain ⟨s1, s2, s3, s4, s5⟩ := by_step l0 l1 bb.1 bb.2
    have hstep := h.step ha (by omega)
    obtain ⟨X, hX⟩ : ∃ X, X = val x * 65536 + a.getD i 0 := ⟨_, rfl⟩
    rw [← hX] at s1 s2 s3 s4 s5 hstep
    obtain ⟨Q, hQ⟩ : ∃ Q, Q = X / val b := ⟨_, rfl⟩
    rw [← hQ] at s1 s2 s5 hstep
    have x2d : Dg (a.getD i 0 :: x) := Dg.of bb.1 bb.2 hx
    have tv : val (trim (a.getD i 0 :: x)) = X := by rw [trim_val, hX]; simp only [val]; omega
    have tl := trim_len (a.getD i 0 :: x)
    rw [List.length_cons] at tl
    have hbin := halving (a := a) (o := o) (i := (i : Int)) (Q := Q) hb hbl (trim_dg x2d) (trim_nm _) (by omega) (fun t => by rw [tv, hQ, Int.le_ediv_iff_mul_le hp]) 65535 0 65535 (by omega) (by omega) (by omega) s1 (by omega)
    obtain ⟨r, rv, rd', rn, rl, e1⟩ := times_eq hb (by omega) (q := Q) s1 (by omega)
    have rv' : val r = Q * val b := by rw [rv, Int.mul_comm]
    obtain ⟨y, yv, yd, yn, yl, e2⟩ := specSub_eq (a := trim (a.getD i 0 :: x)) (b := r) (trim_dg x2d) rd' rn (by rw [tv]; omega) (by omega)
    have yv' : val y = X % val b := by rw [yv, tv]; omega
    rw [← yv'] at hstep
    obtain ⟨q, z, f1, f2, f3, f4⟩ := ih (o.set i Q) y (by omega) yd yn hstep
    refine ⟨q, z, f1, f2, f3, Ev.step (fun k => by rw [spec_l1Div.l0]) ?_⟩
    have e0 : ((i + 1 : Nat) : Int) - 1 = (i : Int) := by omega
    have c1 : (i : Int) ≥ 0 := by omega
    have c2 : (i : Int) < (a.length : Int) := by omega
    have c3 : (i : Int) < (o.length : Int) := by omega
    have c4 : ([a.getD i 0] : List Int).length + x.length < 17592186044416 := by simp only [List.length_singleton]; omega
    have w : wrap64 ((i : Int) - 1) = (i : Int) - 1 := w64 (by omega) (by omega)
    simp only [e0, if_pos c1, if_pos c2, Option.bind_some, rd, Int.toNat_natCast, if_pos c4, List.cons_append, List.nil_append]
    refine Ev.bind (norm_eq (a.getD i 0 :: x) (by rw [List.length_cons]; clear w; omega)) ?_
    refine hbin _ (Ev.step (fun k => by rw [spec_l1Div.l1]) ?_)
    have c5 : ¬ Q < Q := by clear w; omega
    simp only [if_neg c5, if_pos c1, if_pos c3, Int.toNat_natCast, w]
    refine Ev.bind e1 ?_
    exact Ev.bind e2 f4

/-- WHAT IS ASKED FOR: how often, and what is left. -/
theorem specDiv_eq {a b : List Int} (ha : Dg a) (hb : Dg b) (nb : Nm b) (hne : b ≠ []) (hal : a.length ≤ 1000000) (hbl : b.length ≤ 1000000) :
    ∃ q r, val q * val b + val r = val a ∧ val r < val b ∧ Dg q ∧ Nm q ∧ Dg r ∧ Nm r ∧ Ev (fun k => spec_l1Div.f k a b) (q, r) := by
  have hp : 0 < val b := by
    have h1 := val_ge hb nb hne
    have h2 := pow_pos' (b.length - 1)
    omega
  obtain ⟨q, r, h, rd', rn, e⟩ := specDiv_loop ha hb nb hp hal hbl a.length _ [] (Nat.le_refl _) Dg.nil (by simp [Nm]) (ByIn.start a hp)
  have heq := h.eq
  rw [List.drop_zero, List.drop_zero] at heq
  refine ⟨trim q, r, by rw [trim_val]; omega, h.l1, trim_dg h.dg, trim_nm q, rd', rn, ?_⟩
  unfold spec_l1Div.f
  have c1 : 0 ≤ (a.length : Int) := by omega
  have c2 : a.length ≤ 35184372088832 := by omega
  have w : wrap64 ((a.length : Int) - 1) = (a.length : Int) - 1 := w64 (by omega) (by omega)
  simp only [if_pos c1, Int.toNat_natCast, if_pos c2, w]
  exact e

/-- There is but one quotient, and one rest. -/
theorem div_same {q r q2 r2 : List Int} {A B : Int} (h : val q * B + val r = A) (h' : val r < B) (h2 : val q2 * B + val r2 = A) (h2' : val r2 < B) (qd : Dg q) (qn : Nm q) (rd : Dg r) (rn : Nm r) (qd2 : Dg q2) (qn2 : Nm q2) (rd2 : Dg r2) (rn2 : Nm r2) : q = q2 ∧ r = r2 := by
  have r0 := val_nonneg rd
  have r20 := val_nonneg rd2
  have hq : val q = val q2 := by
    rcases Int.lt_trichotomy (val q) (val q2) with h3 | h3 | h3
    · have := Int.mul_le_mul_of_nonneg_right (show val q + 1 ≤ val q2 by omega) (show 0 ≤ B by omega)
      rw [Int.add_mul] at this
      omega
    · exact h3
    · have := Int.mul_le_mul_of_nonneg_right (show val q2 + 1 ≤ val q by omega) (show 0 ≤ B by omega)
      rw [Int.add_mul] at this
      omega
  rw [hq] at h
  exact ⟨val_inj qd qd2 qn qn2 hq, val_inj rd rd2 rn rn2 (by omega)⟩

theorem waddn {i j : Nat} (h : i ≤ 1048576) (h' : j ≤ 1048576) : wrap64 ((i : Int) + (j : Int)) = ((i + j : Nat) : Int) := by
  rw [w64 (by omega) (by omega)]
  omega

theorem mul_wrap {c o x y : Int} (c0 : 0 ≤ c) (c1 : c ≤ 65535) (o0 : 0 ≤ o) (o1 : o < 65536) (x0 : 0 ≤ x) (x1 : x < 65536) (y0 : 0 ≤ y) (y1 : y < 65536) :
    wrap64 (x * y) = x * y ∧ wrap64 (o + x * y) = o + x * y ∧ wrap64 (c + (o + x * y)) = c + (o + x * y) ∧ wrap64 (o + x * y + c) = c + (o + x * y) ∧
    Int.tmod (c + (o + x * y)) 65536 = (c + (o + x * y)) % 65536 ∧ wrap64 (Int.tdiv (c + (o + x * y)) 65536) = (c + (o + x * y)) / 65536 := by
  obtain ⟨h1, h2, h3, h4⟩ := mul_bound c0 c1 o0 o1 x0 x1 y0 y1
  generalize x * y = z at *
  refine ⟨w64 (by omega) (by omega), w64 (by omega) (by omega), w64 (by omega) (by omega), by rw [w64 (by omega) (by omega)]; omega, Int.tmod_eq_emod_of_nonneg h3, ?_⟩
  rw [Int.tdiv_eq_ediv_of_nonneg h3, w64 (by omega) (by omega)]

theorem implMul_row {a b : List Int} (ha : Dg a) (hb : Dg b) (h1 : a.length ≤ 1048576) (h2 : b.length ≤ 1048576) {i : Nat} (hi : i < a.length) :
    ∀ (d j : Nat) (o : List Int) (c : Int), b.length = j + d → MulIn a b o c i j → ∃ o', MulOut a b o' (i + 1) ∧ ∀ R, Ev (fun k => impl_natMul.l0 k b o' a (a.length : Int) ((i + 1 : Nat) : Int)) R →
      Ev (fun k => impl_natMul.l1 k b o (i : Int) (a.getD i 0) c a (a.length : Int) (i : Int) b (b.length : Int) (j : Int)) R := by
  intro d
  induction d with
  | zero =>
    intro j o c hj h
    obtain rfl : j = b.length := by omega
    have hlen := h.len
    refine ⟨_, h.leave hi, fun R hR => Ev.step (fun k => by rw [impl_natMul.l1]) ?_⟩
    simp only [if_neg (show ¬ (b.length : Int) < (b.length : Int) by omega), waddn (show i ≤ 1048576 by omega) (show b.length ≤ 1048576 by omega), if_pos (show 0 ≤ ((i + b.length : Nat) : Int) by omega),
      if_pos (show ((i + b.length : Nat) : Int) < (o.length : Int) by omega), Int.toNat_natCast, wsucc (show i ≤ 1099511627776 by omega)]
    exact hR
  | succ d ih =>
    intro j o c hj h
    have hlen := h.len
    have q1 : (j : Int) < (b.length : Int) := by omega
    have q2 : 0 ≤ (j : Int) := by omega
    have q3 : 0 ≤ ((i + j : Nat) : Int) := by omega
    have q4 : ((i + j : Nat) : Int) < (o.length : Int) := by omega
    have q5 : wrap64 ((i : Int) + (j : Int)) = ((i + j : Nat) : Int) := by exact waddn (by omega) (by omega)
    have q6 : wrap64 ((j : Int) + 1) = ((j + 1 : Nat) : Int) := by exact wsucc (by omega)
    have b1 := ha.getD i
    have b2 := hb.getD j
    have b3 := h.dg.getD (i + j)
    obtain ⟨w1, w2, w3, w4, w5, w6⟩ := mul_wrap h.c0 h.c1 b3.1 b3.2 b1.1 b1.2 b2.1 b2.2
    obtain ⟨o', ho', hr⟩ := ih (j + 1) _ _ (by omega) (h.step ha hb hi (by omega))
    refine ⟨o', ho', fun R hR => Ev.step (fun k => by rw [impl_natMul.l1]) ?_⟩
    have := hr R hR
    clear hr
    simp only [if_pos q1, if_pos q2, q5, if_pos q3, if_pos q4, rd, Int.toNat_natCast, q6, w1, w2, w3, w5, w6]
    exact this

theorem implMul_loop {a b : List Int} (ha : Dg a) (hb : Dg b) (h1 : a.length ≤ 1048576) (h2 : b.length ≤ 1048576) : ∀ (d i : Nat) (o : List Int), a.length = i + d → MulOut a b o i →
    ∃ r, val r = val a * val b ∧ Dg r ∧ r.length = a.length + b.length ∧ Ev (fun k => impl_natMul.l0 k b o a (a.length : Int) (i : Int)) (trim r) := by
  intro d
  induction d with
  | zero =>
    intro i o hi h
    obtain rfl : i = a.length := by omega
    have hlen := h.len
    refine ⟨o, h.done, h.dg, h.len, Ev.step (fun k => by rw [impl_natMul.l0]) ?_⟩
    simp only [if_neg (show ¬ (a.length : Int) < (a.length : Int) by omega)]
    exact Ev.bind (trimmed_eq o (by omega)) (Ev.now _)
  | succ d ih =>
    intro i o hi h
    obtain ⟨o', ho', hr⟩ := implMul_row ha hb h1 h2 (i := i) (by omega) b.length 0 o 0 (by omega) h.enter
    obtain ⟨r, v, g, l, e⟩ := ih (i + 1) o' (by omega) ho'
    refine ⟨r, v, g, l, Ev.step (fun k => by rw [impl_natMul.l0]) ?_⟩
    simp only [if_pos (show (i : Int) < (a.length : Int) by omega), if_pos (show 0 ≤ (i : Int) by omega), rd, Int.toNat_natCast]
    exact hr _ e

theorem implMul_eq {a b : List Int} (ha : Dg a) (hb : Dg b) (h1 : a.length ≤ 1048576) (h2 : b.length ≤ 1048576) :
    ∃ r, val r = val a * val b ∧ Dg r ∧ Nm r ∧ r.length ≤ a.length + b.length ∧ Ev (fun k => impl_natMul.f k a b) r := by
  obtain ⟨r, v, d, l, e⟩ := implMul_loop ha hb h1 h2 a.length 0 _ (by omega) (MulOut.start a b)
  have := trim_len r
  refine ⟨trim r, by rw [trim_val, v], trim_dg d, trim_nm r, by omega, ?_⟩
  unfold impl_natMul.f
  simp only [waddn h1 h2, if_pos (show 0 ≤ ((a.length + b.length : Nat) : Int) by omega), Int.toNat_natCast, if_pos (show a.length + b.length ≤ 35184372088832 by omega)]
  exact e

theorem getD_out {l : List Int} {i : Nat} (h : ¬ (i : Int) < (l.length : Int)) : l.getD i 0 = 0 := by
  rw [List.getD_eq_getElem?_getD, List.getElem?_eq_none (by omega)]
  rfl

theorem tm {x m : Int} (h : 0 ≤ x) : Int.tmod x m = x % m := Int.tmod_eq_emod_of_nonneg h
theorem td {x m : Int} (h : 0 ≤ x) : Int.tdiv x m = x / m := Int.tdiv_eq_ediv_of_nonneg h

theorem implAdd_loop {a b : List Int} (ha : Dg a) (hb : Dg b) (n : Nat) (hn : n ≤ 1048577) (h1 : a.length + 1 ≤ n) (h2 : b.length + 1 ≤ n) : ∀ (d i : Nat) (x : List Int) (c : Int), n = i + d → AddInv a b x c i →
    ∃ r, val r = val a + val b ∧ Dg r ∧ r.length = n ∧ Ev (fun k => impl_natAdd.l0 k a b x c (n : Int) (i : Int)) (trim r) := by
  intro d
  induction d with
  | zero =>
    intro i x c hi h
    obtain ⟨rfl, hv⟩ := h.done ha hb (by omega) (by omega)
    refine ⟨x, hv, h.dg, by rw [h.len]; omega, Ev.step (fun k => by rw [impl_natAdd.l0]) ?_⟩
    simp only [if_neg (show ¬ (i : Int) < (n : Int) by omega)]
    exact Ev.bind (trimmed_eq x (by rw [h.len]; omega)) (Ev.now _)
  | succ d ih =>
    intro i x c hi h
    obtain ⟨r, hv, hd, hl, hr⟩ := ih (i + 1) _ _ (by omega) (h.step ha hb)
    refine ⟨r, hv, hd, hl, Ev.step (fun k => by rw [impl_natAdd.l0]) ?_⟩
    have b1 := ha.getD i
    have b2 := hb.getD i
    have c0 := h.c0
    have c1 := h.c1
    have len := h.len
    simp only [if_pos (show (i : Int) < (n : Int) by omega), if_pos (show 0 ≤ (i : Int) by omega), if_pos (show x.length < 17592186044416 by omega), rd, Int.toNat_natCast, wsucc (show i ≤ 1099511627776 by omega)]
    by_cases p1 : (i : Int) < (a.length : Int)
    · by_cases p2 : (i : Int) < (b.length : Int)
      · simp only [if_pos p1, if_pos p2]
        rw [w64 (n := c + a.getD i 0) (by omega) (by omega), w64 (n := c + a.getD i 0 + b.getD i 0) (by omega) (by omega), tm (by omega), td (by omega), w64 (by omega) (by omega)]
        exact hr
      · simp only [if_pos p1, if_neg p2]
        rw [getD_out p2, Int.add_zero] at hr
        rw [w64 (n := c + a.getD i 0) (by omega) (by omega), tm (by omega), td (by omega), w64 (by omega) (by omega)]
        exact hr
    · rw [getD_out p1, Int.add_zero] at hr
      by_cases p2 : (i : Int) < (b.length : Int)
      · simp only [if_neg p1, if_pos p2]
        rw [w64 (n := c + b.getD i 0) (by omega) (by omega), tm (by omega), td (by omega), w64 (by omega) (by omega)]
        exact hr
      · simp only [if_neg p1, if_neg p2]
        rw [getD_out p2, Int.add_zero] at hr
        rw [tm (by omega), td (by omega), w64 (by omega) (by omega)]
        exact hr

theorem implAdd_eq {a b : List Int} (ha : Dg a) (hb : Dg b) (h1 : a.length ≤ 1048576) (h2 : b.length ≤ 1048576) :
    ∃ r, val r = val a + val b ∧ Dg r ∧ Nm r ∧ r.length ≤ 1048577 ∧ (r.length ≤ a.length + 1 ∨ r.length ≤ b.length + 1) ∧ Ev (fun k => impl_natAdd.f k a b) r := by
  unfold impl_natAdd.f
  have e : wrap64 (mx (a.length : Int) (b.length : Int) + 1) = ((max a.length b.length + 1 : Nat) : Int) := by
    have : mx (a.length : Int) (b.length : Int) = ((max a.length b.length : Nat) : Int) := by
      unfold mx
      split <;> omega
    rw [this, w64 (by omega) (by omega)]
    omega
  obtain ⟨r, hv, hd, hl, hr⟩ := implAdd_loop ha hb (max a.length b.length + 1) (by omega) (by omega) (by omega) (max a.length b.length + 1) 0 [] 0 (by omega) (AddInv.start a b)
  have := trim_len r
  refine ⟨trim r, by rw [trim_val, hv], trim_dg hd, trim_nm r, by omega, by omega, ?_⟩
  rw [e]
  exact hr

/-- What an answer that has at most 64 digits says of its worth. -/
def Fits (r : List Int) (b : Bool) (v : Int) : Prop := (b = true ∧ natOk r = true ∧ val r = v) ∨ (b = false ∧ r = [] ∧ 65536 ^ 64 ≤ v)

theorem limited_fits {r : List Int} (d : Dg r) (n : Nm r) : ∃ q b, impl_limited.f r = some (q, b) ∧ Fits q b (val r) := by
  unfold impl_limited.f
  by_cases hl : (r.length : Int) > 64
  · rw [if_pos hl]
    have h1 := val_ge d n (by intro h; subst h; simp at hl)
    have h2 : (65536 : Int) ^ 64 ≤ 65536 ^ (r.length - 1) := pow_mono (by omega)
    exact ⟨[], false, rfl, .inr ⟨rfl, rfl, by omega⟩⟩
  · rw [if_neg hl]
    exact ⟨r, true, rfl, .inl ⟨rfl, (natOk_iff r).2 ⟨by omega, d, n⟩, rfl⟩⟩

theorem NatAdd_ok {a b : List Int} (ka : natOk a = true) (kb : natOk b = true) : ∃ r q, Ev (fun k => impl_NatAdd.f k a b) (r, q) ∧ Fits r q (val a + val b) := by
  obtain ⟨la, da, na⟩ := (natOk_iff a).1 ka
  obtain ⟨lb, db, nb⟩ := (natOk_iff b).1 kb
  obtain ⟨r, v, d, n, _, _, e⟩ := implAdd_eq da db (by omega) (by omega)
  obtain ⟨q, t, f, hq⟩ := limited_fits d n
  refine ⟨q, t, ?_, by rw [v] at hq; exact hq⟩
  unfold impl_NatAdd.f
  refine Ev.bind (arOf (by omega) (by omega)) ?_
  simp only [List.all_cons, List.all_nil, ka, kb, Bool.and_true, if_true]
  refine Ev.bind e ?_
  simp only [f, Option.bind_some]
  exact Ev.now _

theorem NatMul_ok {a b : List Int} (ka : natOk a = true) (kb : natOk b = true) : ∃ r q, Ev (fun k => impl_NatMul.f k a b) (r, q) ∧ Fits r q (val a * val b) := by
  obtain ⟨la, da, na⟩ := (natOk_iff a).1 ka
  obtain ⟨lb, db, nb⟩ := (natOk_iff b).1 kb
  obtain ⟨r, v, d, n, _, e⟩ := implMul_eq da db (by omega) (by omega)
  obtain ⟨q, t, f, hq⟩ := limited_fits d n
  refine ⟨q, t, ?_, by rw [v] at hq; exact hq⟩
  unfold impl_NatMul.f
  refine Ev.bind (arOf (by omega) (by omega)) ?_
  simp only [List.all_cons, List.all_nil, ka, kb, Bool.and_true, if_true]
  refine Ev.bind e ?_
  simp only [f, Option.bind_some]
  exact Ev.now _

theorem NatCompare_ok {a b : List Int} (ka : natOk a = true) (kb : natOk b = true) : Ev (fun k => impl_NatCompare.f k a b) (cmpI (val a) (val b)) := by
  obtain ⟨la, da, na⟩ := (natOk_iff a).1 ka
  obtain ⟨lb, db, nb⟩ := (natOk_iff b).1 kb
  unfold impl_NatCompare.f
  refine Ev.bind (arOf (by omega) (by omega)) ?_
  simp only [List.all_cons, List.all_nil, ka, kb, Bool.and_true, if_true]
  exact Ev.bind (implCompare_eq da db na nb (by omega) (by omega)) (Ev.now _)

theorem Fits.same {r q : List Int} {v : Int} (h : Fits r true v) (k : natOk q = true) (hv : val q = v) : r = q := by
  rcases h with ⟨_, h1, h2⟩ | ⟨h1, _⟩
  · obtain ⟨_, d, n⟩ := (natOk_iff r).1 h1
    obtain ⟨_, d', n'⟩ := (natOk_iff q).1 k
    exact val_inj d d' n n' (by omega)
  · cases h1

theorem Fits.ok {r : List Int} {v : Int} (h : Fits r true v) : natOk r = true ∧ val r = v := by
  rcases h with ⟨_, h1, h2⟩ | ⟨h1, _⟩
  · exact ⟨h1, h2⟩
  · cases h1

theorem Fits.no {r : List Int} {v : Int} (h : Fits r false v) : 65536 ^ 64 ≤ v := by
  rcases h with ⟨h1, _⟩ | ⟨_, _, h2⟩
  · cases h1
  · exact h2

theorem natOk_lt {r : List Int} (h : natOk r = true) : 0 ≤ val r ∧ val r < 65536 ^ r.length ∧ r.length ≤ 64 := by
  obtain ⟨l, d, n⟩ := (natOk_iff r).1 h
  exact ⟨val_nonneg d, val_lt d, l⟩

/-- The bits of digits. -/
def nbits (l : List Int) : Int := if l.length = 0 then 0 else 16 * ((l.length : Int) - 1) + ((bl (l.getD (l.length - 1) 0).toNat : Nat) : Int)

theorem implBits_eq {l : List Int} (h : Dg l) (hl : l.length ≤ 1048576) : Ev (fun k => impl_natBits.f k l) (nbits l) := by
  unfold impl_natBits.f nbits
  by_cases h0 : l.length = 0
  · simp only [h0, Int.natCast_zero, if_true]
    exact Ev.now _
  · have b := h.getD (l.length - 1)
    have bb := bl_le (n := (l.getD (l.length - 1) 0).toNat) (k := 16) (by omega)
    have e : wrap64 ((l.length : Int) - 1) = (l.length : Int) - 1 := w64 (by omega) (by omega)
    have q0 : 0 ≤ (l.length : Int) - 1 := by clear e; omega
    have q1 : (l.length : Int) - 1 < l.length := by clear e; omega
    have q2 : ¬ (l.length : Int) = 0 := by clear e; omega
    have q3 : ((l.length : Int) - 1).toNat = l.length - 1 := by clear e; omega
    simp only [if_neg h0, if_neg q2, e, if_pos q0, if_pos q1, rd, q3]
    clear e
    rw [u64w (by omega) (by omega)]
    refine Ev.bind (len_eq (by omega) (by omega)) ?_
    rw [w64 (n := 16 * ((l.length : Int) - 1)) (by omega) (by omega), w64 (by omega) (by omega)]
    exact Ev.now _

theorem impl_loop {l : List Int} (h : Dg l) (hl : l.length ≤ 4) (hv : val l < 4611686018427387904) : ∀ (n : Nat) (c i : Int), i = (n : Int) - 1 → n ≤ l.length → c = val (l.drop n) →
    Ev (fun k => impl_NatInt.l0 k l c i) (val l, true) := by
  intro n
  induction n with
  | zero =>
    intro c i hi hn hc
    refine Ev.step (fun k => by rw [impl_NatInt.l0]) ?_
    simp only [if_neg (show ¬ i ≥ 0 by omega)]
    rw [hc, List.drop_zero]
    exact Ev.now _
  | succ n ih =>
    intro c i hi hn hc
    have b := h.getD n
    have e : val (l.drop n) = l.getD n 0 + 65536 * c := by
      rw [List.drop_eq_getElem_cons (show n < l.length by omega), val, hc, List.getD_eq_getElem?_getD, List.getElem?_eq_getElem (show n < l.length by omega), Option.getD_some]
    have bd : val (l.drop n) ≤ val l := by
      have h1 := val_append (l.take n) (l.drop n)
      rw [List.take_append_drop] at h1
      have h2 := val_nonneg (h.take n)
      have h3 := val_nonneg (h.drop n)
      have h4 : (1 : Int) * val (l.drop n) ≤ 65536 ^ (l.take n).length * val (l.drop n) := Int.mul_le_mul_of_nonneg_right (by have := pow_pos' (l.take n).length; omega) h3
      omega
    have c0 : 0 ≤ c := by rw [hc]; exact val_nonneg (h.drop _)
    have := ih (val (l.drop n)) (i - 1) (by omega) (by omega) rfl
    refine Ev.step (fun k => by rw [impl_NatInt.l0]) ?_
    have hr : i.toNat = n := by omega
    simp only [if_pos (show i ≥ 0 by omega), if_pos (show 0 ≤ i by omega), if_pos (show i < (l.length : Int) by omega), rd, hr]
    rw [w64 (n := i - 1) (by omega) (by omega), w64 (n := c * 65536) (by omega) (by omega), show c * 65536 + l.getD n 0 = val (l.drop n) by omega, w64 (by omega) (by omega)]
    exact this

theorem NatInt_small {l : List Int} (kl : natOk l = true) (hv : val l < 65536) : Ev (fun k => impl_NatInt.f k l) (val l, true) := by
  obtain ⟨ll, dl, nl⟩ := (natOk_iff l).1 kl
  have hlen : l.length ≤ 1 := by
    have := len_le_of_val (a := [65535]) (b := l) (fun d hd => by simp at hd; omega) dl nl (by simp [val]; omega)
    simpa using this
  have hb := implBits_eq dl (by omega)
  have hn : ¬ nbits l > 62 := by
    unfold nbits
    have b := dl.getD (l.length - 1)
    have bb := bl_le (n := (l.getD (l.length - 1) 0).toNat) (k := 16) (by omega)
    split <;> omega
  have e := impl_loop dl (by omega) (by omega) l.length 0 ((l.length : Int) - 1) rfl (Nat.le_refl _) (by simp [val])
  unfold impl_NatInt.f
  refine Ev.bind (implNatOk_eq l (by omega)) ?_
  rw [kl]
  simp only [if_true]
  refine Ev.bind hb ?_
  simp only [hn, decide_false]
  refine Ev.step (fun k => by rw [impl_NatInt.j0]) ?_
  have w : wrap64 ((l.length : Int) - 1) = (l.length : Int) - 1 := w64 (by omega) (by omega)
  simp only [Bool.false_eq_true, if_false, w]
  exact e

/-- Byte q of digits, from the lowest on. -/
def byteAt (l : List Int) (q : Nat) : Int := (l.getD (q / 2) 0 / (if q % 2 = 0 then 1 else 256)) % 256

/-- The n lowest bytes, the highest first. -/
def bytesOf' (l : List Int) : Nat → List Int
  | 0 => []
  | n + 1 => byteAt l n :: bytesOf' l n

theorem bytesOf_len (l : List Int) (n : Nat) : (bytesOf' l n).length = n := by
  induction n with
  | zero => rfl
  | succ n ih => simp [bytesOf', ih]

theorem bytesOf_get (l : List Int) : ∀ (n p : Nat), p < n → (bytesOf' l n).getD p 0 = byteAt l (n - 1 - p) := by
  intro n
  induction n with
  | zero => intro p h; omega
  | succ n ih =>
    intro p h
    cases p with
    | zero => simp [bytesOf']
    | succ p =>
      rw [bytesOf', List.getD_cons_succ, ih p (by omega)]
      congr 1
      omega

/-- The bytes that i digits have laid into a row of s. -/
structure Laid (l o : List Int) (s i : Nat) : Prop where
  len : o.length = s
  at_ : ∀ p, p < s → o.getD p 0 = if (s - 1 - p) / 2 < i then byteAt l (s - 1 - p) else 0

theorem laid_step_lo {l o : List Int} {s i : Nat} (h : Laid l o s i) (hi : 2 * i + 1 ≤ s) : ∀ p, p < s → (o.set (s - 1 - 2 * i) (l.getD i 0 % 256)).getD p 0 = if (s - 1 - p) / 2 < i ∨ s - 1 - p = 2 * i then byteAt l (s - 1 - p) else 0 := by
  intro p hp
  rw [getD_set, h.len]
  by_cases e : s - 1 - 2 * i = p
  · rw [if_pos ⟨e, by omega⟩, if_pos (by omega), show s - 1 - p = 2 * i by omega]
    unfold byteAt
    rw [show 2 * i / 2 = i by omega, if_pos (by omega), Int.ediv_one]
  · rw [if_neg (fun k => e k.1), h.at_ p hp]
    by_cases e2 : (s - 1 - p) / 2 < i
    · rw [if_pos e2, if_pos (.inl e2)]
    · rw [if_neg e2, if_neg (by omega)]

theorem laid_step {l o : List Int} {s i : Nat} (h : Laid l o s i) (hi : 2 * i + 2 ≤ s) :
    Laid l ((o.set (s - 1 - 2 * i) (l.getD i 0 % 256)).set (s - 2 - 2 * i) (l.getD i 0 / 256 % 256)) s (i + 1) := by
  refine ⟨by simp [h.len], fun p hp => ?_⟩
  rw [getD_set, List.length_set, h.len]
  by_cases e : s - 2 - 2 * i = p
  · rw [if_pos ⟨e, by omega⟩, if_pos (by omega), show s - 1 - p = 2 * i + 1 by omega]
    unfold byteAt
    rw [show (2 * i + 1) / 2 = i by omega, if_neg (by omega)]
  · rw [if_neg (fun k => e k.1), laid_step_lo h (by omega) p hp]
    by_cases e2 : (s - 1 - p) / 2 < i ∨ s - 1 - p = 2 * i
    · rw [if_pos e2, if_pos (by omega)]
    · rw [if_neg e2, if_neg (by omega)]

theorem laid_last {l o : List Int} {s i : Nat} (h : Laid l o s i) (hi : 2 * i + 1 = s) : Laid l (o.set (s - 1 - 2 * i) (l.getD i 0 % 256)) s (i + 1) := by
  refine ⟨by simp [h.len], fun p hp => ?_⟩
  rw [laid_step_lo h (by omega) p hp]
  by_cases e2 : (s - 1 - p) / 2 < i ∨ s - 1 - p = 2 * i
  · rw [if_pos e2, if_pos (by omega)]
  · rw [if_neg e2, if_neg (by omega)]

theorem laid_done {l o : List Int} {s : Nat} (h : Laid l o s l.length) : o = bytesOf' l s := by
  apply List.ext_getElem (by rw [h.len, bytesOf_len])
  intro p h1 h2
  have a := h.at_ p (by rw [← h.len]; exact h1)
  have b := bytesOf_get l s p (by rw [bytesOf_len] at h2; exact h2)
  rw [List.getD_eq_getElem?_getD, List.getElem?_eq_getElem h1, Option.getD_some] at a
  rw [List.getD_eq_getElem?_getD, List.getElem?_eq_getElem h2, Option.getD_some] at b
  rw [a, b]
  by_cases e : (s - 1 - p) / 2 < l.length
  · rw [if_pos e]
  · rw [if_neg e]
    unfold byteAt
    rw [List.getD_eq_getElem?_getD, List.getElem?_eq_none (by omega)]
    simp

theorem implBytes_loop {l : List Int} (hd : Dg l) {s : Nat} (hs : s ≤ 128) (hls : 2 * l.length ≤ s + 1) : ∀ (d i : Nat) (o : List Int), l.length = i + d → Laid l o s i →
    Ev (fun k => impl_NatBytes.l0 k (s : Int) o l (l.length : Int) (i : Int)) (bytesOf' l s, true) := by
  intro d
  induction d with
  | zero =>
    intro i o hi h
    obtain rfl : i = l.length := by omega
    refine Ev.step (fun k => by rw [impl_NatBytes.l0]) ?_
    simp only [if_neg (show ¬ (l.length : Int) < (l.length : Int) by omega)]
    rw [laid_done h]
    exact Ev.now _
  | succ d ih =>
    intro i o hi h
    have b := hd.getD i
    have hlen := h.len
    refine Ev.step (fun k => by rw [impl_NatBytes.l0]) ?_
    have e1 : wrap64 (wrap64 ((s : Int) - 1) - wrap64 (2 * (i : Int))) = ((s - 1 - 2 * i : Nat) : Int) := by
      rw [w64 (n := (s : Int) - 1) (by omega) (by omega), w64 (n := 2 * (i : Int)) (by omega) (by omega), w64 (by omega) (by omega)]
      omega
    have e2 : wrap64 (wrap64 ((s : Int) - 2) - wrap64 (2 * (i : Int))) = (s : Int) - 2 - 2 * i := by
      rw [w64 (n := (s : Int) - 2) (by omega) (by omega), w64 (n := 2 * (i : Int)) (by omega) (by omega), w64 (by omega) (by omega)]
    have e3 : wrap64 ((i : Int) + 1) = ((i + 1 : Nat) : Int) := wsucc (by omega)
    have q0 : (i : Int) < (l.length : Int) := by clear e1 e2 e3; omega
    have q1 : 0 ≤ (i : Int) := by clear e1 e2 e3; omega
    have q2 : 0 ≤ ((s - 1 - 2 * i : Nat) : Int) := by clear e1 e2 e3; omega
    have q3 : ((s - 1 - 2 * i : Nat) : Int) < (o.length : Int) := by clear e1 e2 e3; omega
    simp only [e1, e2, e3, if_pos q0, if_pos q1, if_pos q2, if_pos q3, Option.bind_some, rd, Int.toNat_natCast]
    clear e1 e2 e3 q0 q1 q2 q3
    by_cases hk : 2 * i + 2 ≤ s
    · have q4 : (s : Int) - 2 - 2 * i ≥ 0 := by omega
      have q5 : 0 ≤ (s : Int) - 2 - 2 * i := by omega
      have q6 : (s : Int) - 2 - 2 * i < (o.length : Int) := by omega
      have q7 : ((s : Int) - 2 - 2 * i).toNat = s - 2 - 2 * i := by omega
      simp only [if_pos q4, if_pos q5, if_pos q6, q7]
      exact ih (i + 1) _ (by omega) (laid_step h hk)
    · have q4 : ¬ (s : Int) - 2 - 2 * i ≥ 0 := by omega
      simp only [if_neg q4]
      exact ih (i + 1) _ (by omega) (laid_last h (by omega))

theorem bits_len {l : List Int} (h : Dg l) (hn : Nm l) {s : Nat} (hb : nbits l ≤ 8 * (s : Int)) : 2 * l.length ≤ s + 1 := by
  unfold nbits at hb
  by_cases h0 : l.length = 0
  · omega
  · rw [if_neg h0] at hb
    have b := h.getD (l.length - 1)
    have hne : l.getD (l.length - 1) 0 ≠ 0 := by
      intro e
      apply hn
      rw [List.getLast?_eq_getElem?, List.getElem?_eq_getElem (by omega)]
      rw [List.getD_eq_getElem?_getD, List.getElem?_eq_getElem (by omega)] at e
      simpa using e
    have bp : 1 ≤ bl (l.getD (l.length - 1) 0).toNat := by rw [bl_pos (by omega)]; omega
    omega

theorem nbits_nat {e : List Int} (he : Dg e) : ∃ N : Nat, nbits e = N ∧ N ≤ 16 * e.length ∧ (val e).toNat < 2 ^ N := by
  unfold nbits
  by_cases h0 : e.length = 0
  · obtain rfl : e = [] := List.length_eq_zero_iff.1 h0
    exact ⟨0, by simp, by simp, by simp [val]⟩
  · rw [if_neg h0]
    have hne : e ≠ [] := by rintro rfl; simp at h0
    have b := he.getD (e.length - 1)
    have h1 := bl_le (n := (e.getD (e.length - 1) 0).toNat) (k := 16) (by omega)
    have h2 := bl_lt (e.getD (e.length - 1) 0).toNat
    refine ⟨16 * (e.length - 1) + bl (e.getD (e.length - 1) 0).toNat, by omega, by omega, ?_⟩
    have h3 := val_last hne
    have h4 := val_take_lt he (i := e.length - 1) (by omega)
    have h5 := two_pow_int (bl (e.getD (e.length - 1) 0).toNat)
    have h6 : 65536 ^ (e.length - 1) * (e.getD (e.length - 1) 0 + 1) ≤ 65536 ^ (e.length - 1) * (2 : Int) ^ bl (e.getD (e.length - 1) 0).toNat := Int.mul_le_mul_of_nonneg_left (by omega) (Int.le_of_lt (pow_pos' _))
    have h7 : 65536 ^ (e.length - 1) * (e.getD (e.length - 1) 0 + 1) = 65536 ^ (e.length - 1) * e.getD (e.length - 1) 0 + 65536 ^ (e.length - 1) := by grind
    have h8 : (65536 : Int) ^ (e.length - 1) = 2 ^ (16 * (e.length - 1)) := by rw [Int.pow_mul]; rfl
    have h9 := val_nonneg he
    have h10 : val e < (2 : Int) ^ (16 * (e.length - 1) + bl (e.getD (e.length - 1) 0).toNat) := by
      rw [Int.pow_add, ← h8]
      omega
    rw [← two_pow_int] at h10
    omega

theorem sameInts_loop (l : List Int) (hl : l.length ≤ 1099511627776) : ∀ (d : Nat) (i : Int), 0 ≤ i → (l.length : Int) - i = d → Ev (fun k => laws_sameInts.l0 k l l i) true := by
  intro d
  induction d with
  | zero =>
    intro i h0 hd
    refine Ev.step (fun k => by rw [laws_sameInts.l0]) ?_
    simp only [if_neg (show ¬ i < (l.length : Int) by omega)]
    exact Ev.now _
  | succ d ih =>
    intro i h0 hd
    refine Ev.step (fun k => by rw [laws_sameInts.l0]) ?_
    simp only [if_pos (show i < (l.length : Int) by omega), if_pos h0, if_true]
    rw [w64 (n := i + 1) (by omega) (by omega)]
    exact ih (i + 1) (by omega) (by omega)

theorem sameInts_eq (l : List Int) (hl : l.length ≤ 1099511627776) : Ev (fun k => laws_sameInts.f k l l) true := by
  unfold laws_sameInts.f
  simp only [if_true]
  exact sameInts_loop l hl l.length 0 (by omega) (by omega)

theorem at_some {l : List Int} (hw : ∀ x ∈ l, 0 ≤ x ∧ x ≤ 255) (hl : l.length ≤ 1048576) {i : Int} (h0 : 0 ≤ i) (h1 : i ≤ 1000) : ∃ v, laws_at.f l i = some v ∧ 0 ≤ v ∧ v ≤ 255 := by
  unfold laws_at.f
  by_cases h : i < (l.length : Int)
  · rw [if_pos h, if_pos h0]
    have hm := hw (rd l i) (by
      unfold rd
      rw [List.getD_eq_getElem?_getD, List.getElem?_eq_getElem (by omega), Option.getD_some]
      exact List.getElem_mem _)
    exact ⟨_, rfl, by rw [w64 (by omega) (by omega)]; omega, by rw [w64 (by omega) (by omega)]; omega⟩
  · rw [if_neg h]
    refine ⟨_, rfl, ?_⟩
    rw [w64 (n := i * 7) (by omega) (by omega), w64 (by omega) (by omega), Int.tmod_eq_emod_of_nonneg (by omega)]
    omega

theorem wfu8 {l : List Int} (h : ∀ x ∈ l, (Lit.int .u8 x).wf = true) : ∀ x ∈ l, 0 ≤ x ∧ x ≤ 255 := by
  intro x hx
  have := h x hx
  simpa [Lit.wf, IntKind.min, IntKind.max, IntKind.signed, IntKind.bits] using this

theorem and255 (x : Int) : 0 ≤ Go.bits .and .i64 x 255 ∧ Go.bits .and .i64 x 255 ≤ 255 := by
  unfold Go.bits
  simp only [BitVec.toNat_and]
  have h : (BitVec.ofInt IntKind.i64.bits 255).toNat = 255 := by decide
  rw [h]
  have h2 : (BitVec.ofInt IntKind.i64.bits x).toNat &&& 255 ≤ 255 := Nat.and_le_right
  generalize (BitVec.ofInt IntKind.i64.bits x).toNat &&& 255 = n at *
  rw [IntKind.wrap_i64]
  omega

/-- The cursor stands in its bytes. -/
def Cur (b : List Int) (i : Int) : Prop := 0 ≤ i ∧ i ≤ b.length ∧ b.length ≤ 1099511627776

theorem byte_some {b : List Int} {i : Int} (h : Int) (c : Cur b i) : ∃ v i' h', spec_l1Byte.f b i h = some (v, i', h') ∧ 0 ≤ v ∧ v ≤ 255 ∧ Cur b i' := by
  unfold spec_l1Byte.f
  obtain ⟨c0, c1, c2⟩ := c
  by_cases hi : i < (b.length : Int)
  · rw [if_pos hi, if_pos c0]
    refine ⟨_, _, _, rfl, (and255 _).1, (and255 _).2, ?_⟩
    rw [w64 (by omega) (by omega)]
    exact ⟨by omega, by omega, c2⟩
  · rw [if_neg hi]
    exact ⟨_, _, _, rfl, (and255 _).1, (and255 _).2, c0, c1, c2⟩

theorem below_some {b : List Int} {i : Int} (h : Int) (c : Cur b i) {n : Int} (hn : 0 < n) (hn' : n ≤ 4611686018427387904) : ∃ v i' h', spec_l1Below.f b i h n = some (v, i', h') ∧ 0 ≤ v ∧ v < n ∧ Cur b i' := by
  unfold spec_l1Below.f
  rw [if_neg (by omega)]
  by_cases h1 : n ≤ 256
  · rw [if_pos h1]
    obtain ⟨v, i', h', e, v0, v1, c'⟩ := byte_some h c
    rw [e]
    simp only [Option.bind_some, if_neg (show ¬ n = 0 by omega), Int.tmod_eq_emod_of_nonneg v0]
    exact ⟨_, _, _, rfl, Int.emod_nonneg _ (by omega), Int.emod_lt_of_pos _ hn, c'⟩
  · rw [if_neg h1]
    obtain ⟨v, i', h', e, v0, v1, c'⟩ := byte_some h c
    obtain ⟨w, j, g, f, w0, w1, d⟩ := byte_some h' c'
    obtain ⟨x, j', g', f', x0, x1, d'⟩ := byte_some g d
    obtain ⟨y, j2, g2, f2, y0, y1, d2⟩ := byte_some g' d'
    rw [e]
    simp only [Option.bind_some, f, f', f2, if_neg (show ¬ n = 0 by omega)]
    rw [w64 (n := v * 16777216) (by omega) (by omega), w64 (n := w * 65536) (by omega) (by omega), w64 (n := v * 16777216 + w * 65536) (by omega) (by omega), w64 (n := x * 256) (by omega) (by omega), w64 (n := v * 16777216 + w * 65536 + x * 256) (by omega) (by omega), w64 (by omega) (by omega), Int.tmod_eq_emod_of_nonneg (by omega)]
    exact ⟨_, _, _, rfl, Int.emod_nonneg _ (by omega), Int.emod_lt_of_pos _ hn, d2⟩

theorem new_loop (l : List Int) (hl : l.length ≤ 1099511627776) : ∀ (d : Nat) (h i : Int), 0 ≤ i → (l.length : Int) - i = d → ∃ h', Ev (fun k => spec_l1New.l0 k l h i) (l, 0, h') := by
  intro d
  induction d with
  | zero =>
    intro h i h0 hd
    refine ⟨h, Ev.step (fun k => by rw [spec_l1New.l0]) ?_⟩
    simp only [if_neg (show ¬ i < (l.length : Int) by omega)]
    exact Ev.now _
  | succ d ih =>
    intro h i h0 hd
    by_cases h1 : i < 4000
    · obtain ⟨h', e⟩ := ih (Go.bits .and .i64 (wrap64 ((wrap64 ((wrap64 (h * 131)) + (wrap64 (rd l i)))) + 7)) 1073741823) (i + 1) (by omega) (by omega)
      refine ⟨h', Ev.step (fun k => by rw [spec_l1New.l0]) ?_⟩
      simp only [if_pos (show i < (l.length : Int) by omega), if_pos h1, if_pos h0]
      rw [w64 (n := i + 1) (by omega) (by omega)]
      exact e
    · refine ⟨h, Ev.step (fun k => by rw [spec_l1New.l0]) ?_⟩
      simp only [if_pos (show i < (l.length : Int) by omega), if_neg h1]
      exact Ev.now _

theorem new_some (l : List Int) (hl : l.length ≤ 1099511627776) : ∃ h', Ev (fun k => spec_l1New.f k l) (l, 0, h') ∧ Cur l 0 := by
  obtain ⟨h', e⟩ := new_loop l hl l.length (wrap64 (148148 + (l.length : Int))) 0 (by omega) (by omega)
  exact ⟨h', e, by unfold Cur; omega⟩

theorem pick_some {b : List Int} {i : Int} (h : Int) (c : Cur b i) {l : List Int} (hl : 0 < l.length) (hl' : l.length ≤ 1000) : ∃ v i' h', spec_l1PickInt.f b i h l = some (v, i', h') ∧ v ∈ l ∧ Cur b i' := by
  unfold spec_l1PickInt.f
  obtain ⟨v, i', h', e, v0, v1, c'⟩ := below_some h c (n := (l.length : Int)) (by omega) (by omega)
  rw [e]
  simp only [Option.bind_some, if_pos v0, if_pos v1]
  refine ⟨_, _, _, rfl, ?_, c'⟩
  unfold rd
  rw [List.getD_eq_getElem?_getD, List.getElem?_eq_getElem (by omega), Option.getD_some]
  exact List.getElem_mem _

theorem once_some {b : List Int} {i : Int} (h : Int) (c : Cur b i) {n : Int} (hn : 0 < n) (hn' : n ≤ 1000) : ∃ v i' h', spec_l1Once.f b i h n = some (v, i', h') ∧ Cur b i' := by
  unfold spec_l1Once.f
  obtain ⟨v, i', h', e, v0, v1, c'⟩ := below_some h c hn (by omega)
  rw [e]
  exact ⟨_, _, _, rfl, c'⟩

theorem drawNat_loop (b : List Int) : ∀ (m : Nat) (n : Int) (x : List Int) (i h : Int), n.toNat ≤ m → n ≤ 1000 → x.length + n.toNat ≤ 1000 → Cur b i →
    ∃ l i' h', Ev (fun k => spec_l1DrawNat.l0 k x n b i h) (l, i', h') ∧ Cur b i' ∧ l.length ≤ x.length + n.toNat := by
  intro m
  induction m with
  | zero =>
    intro n x i h hn hn' hx c
    have := trim_len x
    refine ⟨trim x, i, h, Ev.step (fun k => by rw [spec_l1DrawNat.l0]) ?_, c, by omega⟩
    simp only [if_neg (show ¬ n > 0 by omega)]
    exact Ev.bind (norm_eq x (by omega)) (Ev.now _)
  | succ m ih =>
    intro n x i h hn hn' hx c
    by_cases h0 : n > 0
    · obtain ⟨v, i1, h1, e1, _, _, c1⟩ := below_some h c (n := 65536) (by omega) (by omega)
      obtain ⟨o, i2, h2, e2, c2⟩ := once_some h1 c1 (n := 6) (by omega) (by omega)
      cases o with
      | true =>
        obtain ⟨w, i3, h3, e3, _, c3⟩ := pick_some h2 c2 (l := [0, 1, 65535, 32768]) (by simp) (by simp)
        obtain ⟨l, i', h', e, c', hl⟩ := ih (n - 1) (x ++ [w]) i3 h3 (by omega) (by omega) (by simp; omega) c3
        refine ⟨l, i', h', Ev.step (fun k => by rw [spec_l1DrawNat.l0]) ?_, c', by simp at hl; omega⟩
        simp only [if_pos h0, e1, e2, e3, Option.bind_some, if_true, if_pos (show x.length < 17592186044416 by omega)]
        rw [w64 (by omega) (by omega)]
        exact e
      | false =>
        obtain ⟨l, i', h', e, c', hl⟩ := ih (n - 1) (x ++ [v]) i2 h2 (by omega) (by omega) (by simp; omega) c2
        refine ⟨l, i', h', Ev.step (fun k => by rw [spec_l1DrawNat.l0]) ?_, c', by simp at hl; omega⟩
        simp only [if_pos h0, e1, e2, Option.bind_some, Bool.false_eq_true, if_false, if_pos (show x.length < 17592186044416 by omega)]
        rw [w64 (by omega) (by omega)]
        exact e
    · exact ih n x i h (by omega) hn' hx c

theorem drawNat_some {b : List Int} {i : Int} (h : Int) (c : Cur b i) {n : Int} (hn : 0 < n) (hn' : n ≤ 500) : ∃ l i' h', Ev (fun k => spec_l1DrawNat.f k b i h n) (l, i', h') ∧ Cur b i' ∧ l.length < n := by
  obtain ⟨v, i1, h1, e1, v0, v1, c1⟩ := below_some h c hn (by omega)
  obtain ⟨l, i', h', e, c', hl⟩ := drawNat_loop b v.toNat v [] i1 h1 (Nat.le_refl _) (by omega) (by simp; omega) c1
  refine ⟨l, i', h', ?_, c', by simp at hl; omega⟩
  unfold spec_l1DrawNat.f
  simp only [e1, Option.bind_some]
  exact e

theorem drawAny_loop (b : List Int) : ∀ (m : Nat) (n : Int) (x : List Int) (i h : Int), n.toNat ≤ m → n ≤ 1000 → x.length + n.toNat ≤ 1000 →
    ∃ l, Ev (fun k => spec_l1DrawAny.l0 k x n b i h) (l, i, h) ∧ l.length ≤ x.length + n.toNat := by
  intro m
  induction m with
  | zero =>
    intro n x i h hn hn' hx
    refine ⟨x, Ev.step (fun k => by rw [spec_l1DrawAny.l0]) ?_, by omega⟩
    simp only [if_neg (show ¬ n > 0 by omega)]
    exact Ev.now _
  | succ m ih =>
    intro n x i h hn hn' hx
    by_cases h0 : n > 0
    · obtain ⟨l, e, hl⟩ := ih (n - 1) (x ++ [65535]) i h (by omega) (by omega) (by simp; omega)
      refine ⟨l, Ev.step (fun k => by rw [spec_l1DrawAny.l0]) ?_, by simp at hl; omega⟩
      simp only [if_pos h0, if_pos (show x.length < 17592186044416 by omega)]
      rw [w64 (by omega) (by omega)]
      exact e
    · exact ih n x i h (by omega) hn' hx

theorem drawAny_some {b : List Int} {i : Int} (h : Int) (c : Cur b i) : ∃ l i' h', Ev (fun k => spec_l1DrawAny.f k b i h) (l, i', h') ∧ Cur b i' ∧ l.length ≤ 66 := by
  obtain ⟨a, i1, h1, e1, c1, hl⟩ := drawNat_some h c (n := 7) (by omega) (by omega)
  obtain ⟨v, i2, h2, e2, v0, v1, c2⟩ := below_some h1 c1 (n := 30) (by omega) (by omega)
  by_cases p0 : v = 0
  · obtain ⟨w, i3, h3, e3, _, c3⟩ := pick_some h2 c2 (l := [0, (-1), 65536, 1]) (by simp) (by simp)
    refine ⟨a ++ [w], i3, h3, ?_, c3, by simp; omega⟩
    unfold spec_l1DrawAny.f
    refine Ev.bind e1 ?_
    simp only [e2, e3, Option.bind_some, if_pos p0, if_pos (show a.length < 17592186044416 by omega)]
    exact Ev.now _
  · by_cases p1 : v = 1
    · obtain ⟨x, i3, h3, e3, x0, x1, c3⟩ := below_some h2 c2 (n := 2) (by omega) (by omega)
      obtain ⟨y, i4, h4, e4, y0, y1, c4⟩ := below_some h3 c3 (n := 2) (by omega) (by omega)
      obtain ⟨l, e, hl'⟩ := drawAny_loop b (64 - x + y).toNat (64 - x + y) [] i4 h4 (Nat.le_refl _) (by omega) (by simp; omega)
      refine ⟨l, i4, h4, ?_, c4, by simp at hl'; omega⟩
      unfold spec_l1DrawAny.f
      refine Ev.bind e1 ?_
      simp only [e2, e3, e4, Option.bind_some, if_neg p0, if_pos p1]
      rw [w64 (n := 64 - x) (by omega) (by omega), w64 (by omega) (by omega)]
      exact e
    · refine ⟨a, i2, h2, ?_, c2, by omega⟩
      unfold spec_l1DrawAny.f
      refine Ev.bind e1 ?_
      simp only [e2, Option.bind_some, if_neg p0, if_neg p1]
      exact Ev.now _

theorem bytes_yes {a : List Int} (ka : natOk a = true) {s : Nat} (hs : s ≤ 128) (hb : nbits a ≤ 8 * (s : Int)) : Ev (fun k => impl_NatBytes.f k a (s : Int)) (bytesOf' a s, true) := by
  obtain ⟨la, da, na⟩ := (natOk_iff a).1 ka
  have hls := bits_len da na hb
  have q : (0 ≤ (s : Int) ∧ (s : Int) ≤ 128) = True := eq_true ⟨by omega, by omega⟩
  unfold impl_NatBytes.f
  refine Ev.bind (implNatOk_eq a (by omega)) ?_
  have e8 : wrap64 (8 * (s : Int)) = 8 * (s : Int) := w64 (by omega) (by omega)
  simp only [ka, if_true, within_eq, q, decide_true, Option.bind_some, e8]
  refine Ev.bind (implBits_eq da (by clear e8; omega)) ?_
  simp only [show ¬ nbits a > 8 * (s : Int) by clear e8; omega, decide_false]
  refine Ev.step (fun k => by rw [impl_NatBytes.j0]) ?_
  simp only [Bool.false_eq_true, if_false, if_pos (show 0 ≤ (s : Int) by clear e8; omega), Int.toNat_natCast, if_pos (show s ≤ 281474976710656 by clear e8; omega)]
  clear e8
  refine implBytes_loop da hs hls a.length 0 _ (by omega) ⟨by simp, fun p hp => ?_⟩
  rw [if_neg (by omega), List.getD_eq_getElem?_getD, List.getElem?_replicate]
  split <;> rfl

theorem bytes_no {a : List Int} (ka : natOk a = true) {n : Int} (h0 : 0 ≤ n) (h1 : n ≤ 128) (hb : nbits a > 8 * n) : Ev (fun k => impl_NatBytes.f k a n) ([], false) := by
  obtain ⟨la, da, na⟩ := (natOk_iff a).1 ka
  unfold impl_NatBytes.f
  refine Ev.bind (implNatOk_eq a (by omega)) ?_
  have q : (0 ≤ n ∧ n ≤ 128) = True := eq_true ⟨h0, h1⟩
  have e8 : wrap64 (8 * n) = 8 * n := w64 (by omega) (by omega)
  simp only [ka, if_true, within_eq, q, decide_true, Option.bind_some, e8]
  refine Ev.bind (implBits_eq da (by clear e8; omega)) ?_
  simp only [hb, decide_true]
  refine Ev.step (fun k => by rw [impl_NatBytes.j0]) ?_
  simp only [if_true]
  exact Ev.now _

/-- A digit that has but its low byte among the bytes. -/
theorem low_digit {a : List Int} (da : Dg a) {j : Nat} (hb : nbits a ≤ 8 * ((2 * j + 1 : Nat) : Int)) : a.getD j 0 < 256 := by
  obtain ⟨N, hN, hN2, hN3⟩ := nbits_nat da
  by_cases hj : j < a.length
  · have h1 := val_split a (i := j) (by omega)
    have h2 := val_nonneg (da.take j)
    have h3 := val_drop hj
    have h4 := val_nonneg (da.drop (j + 1))
    have h5 : (2 : Nat) ^ N ≤ 2 ^ (16 * j + 8) := Nat.pow_le_pow_right (by omega) (by omega)
    have h6 : ((2 ^ (16 * j + 8) : Nat) : Int) = 65536 ^ j * 256 := by
      rw [two_pow_int, Int.pow_add, Int.pow_mul]
      rfl
    have h7 := val_nonneg da
    have h8 : 65536 ^ j * val (a.drop j) < 65536 ^ j * 256 := by omega
    have := Int.lt_of_mul_lt_mul_left h8 (Int.le_of_lt (pow_pos' j))
    omega
  · rw [List.getD_eq_getElem?_getD, List.getElem?_eq_none (by omega)]
    simp

/-- THE BYTES COME BACK TO THE DIGITS. -/
theorem readBack_loop {a : List Int} (da : Dg a) (na : Nm a) {s : Nat} (hs : s ≤ 128) (hb : nbits a ≤ 8 * (s : Int)) : ∀ (m j : Nat) (x : List Int), s ≤ 2 * j + 2 * m → j ≤ 100 → x.length = j → Dg x → val x = val (a.take j) →
    Ev (fun k => impl_natRead.l0 k (bytesOf' a s) x ((s : Int) - 1 - 2 * (j : Int))) a := by
  have hls := bits_len da na hb
  have hlen := bytesOf_len a s
  have fin : ∀ (j : Nat) (x : List Int), s ≤ 2 * j → j ≤ 100 → x.length = j → Dg x → val x = val (a.take j) → Ev (fun k => impl_natRead.l0 k (bytesOf' a s) x ((s : Int) - 1 - 2 * (j : Int))) a := by
    intro j x h1 h2 h3 h4 h5
    rw [List.take_of_length_le (by omega)] at h5
    have e : trim x = a := val_inj (trim_dg h4) da (trim_nm x) na (by rw [trim_val, h5])
    have t := trimmed_eq x (by omega)
    rw [e] at t
    refine Ev.step (fun k => by rw [impl_natRead.l0]) ?_
    simp only [if_neg (show ¬ (s : Int) - 1 - 2 * (j : Int) ≥ 0 by omega)]
    exact Ev.bind t (Ev.now _)
  intro m
  induction m with
  | zero => exact fun j x h1 h2 h3 h4 h5 => fin j x (by omega) h2 h3 h4 h5
  | succ m ih =>
    intro j x h1 h2 h3 h4 h5
    by_cases hj : s ≤ 2 * j
    · exact fin j x hj h2 h3 h4 h5
    · have bd := da.getD j
      have next := ih (j + 1) (x ++ [a.getD j 0]) (by omega) (by omega) (by simp [h3]) (h4.snoc bd.1 bd.2) (by rw [val_snoc, val_take_succ', h3, h5])
      have hp : ((s : Int) - 1 - 2 * (j : Int)).toNat = s - 1 - 2 * j := by omega
      have hb0 := bytesOf_get a s (s - 1 - 2 * j) (by omega)
      rw [show s - 1 - (s - 1 - 2 * j) = 2 * j by omega] at hb0
      have v0 : byteAt a (2 * j) = a.getD j 0 % 256 := by
        unfold byteAt
        rw [show 2 * j / 2 = j by omega, if_pos (by omega)]
        omega
      have c0 : (s : Int) - 1 - 2 * (j : Int) ≥ 0 := by omega
      have c1 : 0 ≤ (s : Int) - 1 - 2 * (j : Int) := by omega
      have c2 : (s : Int) - 1 - 2 * (j : Int) < ((bytesOf' a s).length : Int) := by omega
      have c3 : x.length < 17592186044416 := by omega
      have w2 : wrap64 ((s : Int) - 1 - 2 * (j : Int) - 2) = (s : Int) - 1 - 2 * ((j + 1 : Nat) : Int) := by rw [w64 (by omega) (by omega)]; omega
      refine Ev.step (fun k => by rw [impl_natRead.l0]) ?_
      by_cases hk : 2 * j + 1 < s
      · have hp1 : ((s : Int) - 1 - 2 * (j : Int) - 1).toNat = s - 2 - 2 * j := by clear w2; omega
        have hb1 := bytesOf_get a s (s - 2 - 2 * j) (by clear w2; omega)
        rw [show s - 1 - (s - 2 - 2 * j) = 2 * j + 1 by clear w2; omega] at hb1
        have v1 : byteAt a (2 * j + 1) = a.getD j 0 / 256 % 256 := by
          unfold byteAt
          rw [show (2 * j + 1) / 2 = j by clear w2; omega, if_neg (by clear w2; omega)]
        have w1 : wrap64 ((s : Int) - 1 - 2 * (j : Int) - 1) = (s : Int) - 1 - 2 * (j : Int) - 1 := w64 (by clear w2; omega) (by clear w2; omega)
        have w3 : wrap64 (wrap64 (a.getD j 0 % 256) + wrap64 (wrap64 (a.getD j 0 / 256 % 256) * 256)) = a.getD j 0 := by
          clear w1 w2
          rw [w64 (n := a.getD j 0 % 256) (by omega) (by omega), w64 (n := a.getD j 0 / 256 % 256) (by omega) (by omega), w64 (n := a.getD j 0 / 256 % 256 * 256) (by omega) (by omega), w64 (by omega) (by omega)]
          omega
        have c4 : (s : Int) - 1 - 2 * (j : Int) > 0 := by clear w1 w2 w3; omega
        have c5 : 0 ≤ (s : Int) - 1 - 2 * (j : Int) - 1 := by clear w1 w2 w3; omega
        have c6 : (s : Int) - 1 - 2 * (j : Int) - 1 < ((bytesOf' a s).length : Int) := by clear w1 w2 w3; omega
        simp only [if_pos c0, if_pos c1, if_pos c2, if_pos c4, w1, if_pos c5, if_pos c6, if_pos c3, rd, hp, hp1, hb0, hb1, v0, v1, w3, w2]
        exact next
      · have hl := low_digit da (j := j) (by clear w2; rw [show 2 * j + 1 = s by omega]; exact hb)
        have w3 : wrap64 (a.getD j 0 % 256) = a.getD j 0 := by
          clear w2
          rw [w64 (by omega) (by omega)]
          omega
        have c4 : ¬ (s : Int) - 1 - 2 * (j : Int) > 0 := by clear w2 w3; omega
        simp only [if_pos c0, if_pos c1, if_pos c2, if_neg c4, if_pos c3, rd, hp, hb0, v0, w3, w2]
        exact next

theorem readBack {a : List Int} (ka : natOk a = true) {s : Nat} (hs : s ≤ 128) (hb : nbits a ≤ 8 * (s : Int)) : Ev (fun k => impl_NatRead.f k (bytesOf' a s)) (a, true) := by
  obtain ⟨la, da, na⟩ := (natOk_iff a).1 ka
  have hlen := bytesOf_len a s
  have e := readBack_loop da na hs hb s 0 [] (by omega) (by omega) rfl Dg.nil (by simp [val])
  have w : wrap64 (((bytesOf' a s).length : Int) - 1) = (s : Int) - 1 - 2 * ((0 : Nat) : Int) := by rw [w64 (by omega) (by omega)]; omega
  unfold impl_NatRead.f impl_natRead.f
  simp only [if_neg (show ¬ ((bytesOf' a s).length : Int) > 128 by clear w; omega), w]
  exact Ev.bind e (Ev.now _)

theorem nbits_bd {a : List Int} (ka : natOk a = true) : 0 ≤ nbits a ∧ nbits a ≤ 1024 := by
  obtain ⟨la, da, na⟩ := (natOk_iff a).1 ka
  obtain ⟨N, hN, hN2, _⟩ := nbits_nat da
  omega

theorem lastWay (l a : List Int) (hw : ∀ x ∈ l, 0 ≤ x ∧ x ≤ 255) (hl : l.length ≤ 1048576) (ka : natOk a = true) : Ev (fun k => laws_FnDivided.j2 k l a true a true) true := by
  obtain ⟨u, e0, u0, u1⟩ := at_some hw hl (i := 0) (by omega) (by omega)
  obtain ⟨v, e1, v0, v1⟩ := at_some hw hl (i := 1) (by omega) (by omega)
  obtain ⟨la, da, na⟩ := (natOk_iff a).1 ka
  obtain ⟨A, hA, A0, A1⟩ : ∃ A, wrap64 (u * v) = A ∧ 0 ≤ A ∧ A ≤ 65025 := by
    have m1 : 0 ≤ u * v := Int.mul_nonneg u0 v0
    have m2 : u * v ≤ 255 * 255 := Int.mul_le_mul u1 v1 v0 (by omega)
    exact ⟨u * v, w64 (by omega) (by omega), m1, by omega⟩
  obtain ⟨n, a1, a2, a3, a4, a5⟩ := ImplNatOf_eq (a := A) (by clear hA; omega) (by clear hA; omega)
  have kn : natOk n = true := (natOk_iff n).2 ⟨by clear hA; omega, a2, a3⟩
  have hi := NatInt_small kn (by clear hA; omega)
  rw [a4] at hi
  refine Ev.step (fun k => by rw [laws_FnDivided.j2]) ?_
  simp only [e0, e1, Option.bind_some, hA]
  clear hA
  refine Ev.bind a5 (Ev.bind hi ?_)
  simp only [if_true]
  refine Ev.bind (sameInts_eq a (by omega)) ?_
  simp only [if_true, beq_self_eq_true]
  exact Ev.now _

theorem bytesWay (l a : List Int) (hw : ∀ x ∈ l, 0 ≤ x ∧ x ≤ 255) (hl : l.length ≤ 1048576) (ka : natOk a = true) : Ev (fun k => laws_FnDivided.j1 k l a false) true := by
  obtain ⟨la, da, na⟩ := (natOk_iff a).1 ka
  obtain ⟨n0, n1⟩ := nbits_bd ka
  have hbits : Ev (fun k => impl_NatBits.f k a) (nbits a) := by
    unfold impl_NatBits.f
    refine Ev.bind (implNatOk_eq a (by omega)) ?_
    simp only [ka, if_true]
    exact Ev.bind (implBits_eq da (by omega)) (Ev.now _)
  obtain ⟨s, hs⟩ : ∃ s : Nat, wrap64 (Int.tdiv (wrap64 (nbits a + 7)) 8) = (s : Int) ∧ (s : Int) = (nbits a + 7) / 8 := by
    refine ⟨((nbits a + 7) / 8).toNat, ?_, by omega⟩
    rw [w64 (n := nbits a + 7) (by omega) (by omega), Int.tdiv_eq_ediv_of_nonneg (by omega), w64 (by omega) (by omega)]
    omega
  obtain ⟨hs, hs2⟩ := hs
  refine Ev.step (fun k => by rw [laws_FnDivided.j1]) ?_
  simp only [Bool.false_eq_true, if_false]
  refine Ev.bind hbits ?_
  simp only [hs]
  clear hs
  refine Ev.bind (bytes_yes ka (s := s) (by omega) (by omega)) (Ev.bind (readBack ka (s := s) (by omega) (by omega)) ?_)
  by_cases hp : (s : Int) > 0
  · have w : wrap64 ((s : Int) - 1) = (s : Int) - 1 := w64 (by omega) (by omega)
    simp only [if_pos hp, w]
    clear w
    refine Ev.bind (bytes_no ka (n := (s : Int) - 1) (by omega) (by omega) (by omega)) ?_
    simp only [Bool.false_eq_true, if_false]
    exact lastWay l a hw hl ka
  · simp only [if_neg hp]
    exact lastWay l a hw hl ka

theorem draws (l : List Int) (hl : l.length ≤ 1048576) : ∃ a b, a.length ≤ 66 ∧ b.length ≤ 66 ∧ Ev (fun k => spec_DrawNatDiv.f k l) (a, b) := by
  obtain ⟨h, e, c⟩ := new_some l (by omega)
  obtain ⟨b0, i1, h1, e1, c1, l1⟩ := drawNat_some h c (n := 4) (by omega) (by omega)
  obtain ⟨v, i2, h2, e2, c2⟩ := once_some h1 c1 (n := 20) (by omega) (by omega)
  by_cases hv : v = true
  · obtain ⟨b, i3, h3, e3, c3, l3⟩ := drawAny_some h2 c2
    obtain ⟨a, i4, h4, e4, c4, l4⟩ := drawAny_some h3 c3
    refine ⟨a, b, l4, l3, ?_⟩
    unfold spec_DrawNatDiv.f
    refine Ev.bind e (Ev.bind e1 ?_)
    simp only [e2, Option.bind_some, if_pos hv]
    exact Ev.bind e3 (Ev.bind e4 (Ev.now _))
  · obtain ⟨a, i4, h4, e4, c4, l4⟩ := drawAny_some h2 c2
    refine ⟨a, b0, l4, by omega, ?_⟩
    unfold spec_DrawNatDiv.f
    refine Ev.bind e (Ev.bind e1 ?_)
    simp only [e2, Option.bind_some, if_neg hv]
    exact Ev.bind e4 (Ev.now _)

theorem divs (a b : List Int) (h1 : a.length ≤ 66) (h2 : b.length ≤ 66) :
    ∃ q r q' r' t, Ev (fun k => impl_NatDiv.f k a b) (q, r, t) ∧ Ev (fun k => spec_NatDiv.f k a b) (q', r', t) ∧ (t = false → q = [] ∧ r = []) ∧
      (t = true → natOk a = true ∧ natOk b = true ∧ natOk q = true ∧ natOk r = true ∧ val q * val b + val r = val a ∧ val r < val b) := by
  have oa := specNatOk_eq a (by omega)
  have ob := specNatOk_eq b (by omega)
  have ar := arOf (a := a) (b := b) (by omega) (by omega)
  unfold spec_NatDiv.f impl_NatDiv.f
  by_cases k : natOk a = true ∧ natOk b = true
  · obtain ⟨ka, kb⟩ := k
    obtain ⟨la, da, na⟩ := (natOk_iff a).1 ka
    obtain ⟨lb, db, nb⟩ := (natOk_iff b).1 kb
    by_cases hb0 : (b.length : Int) = 0
    · refine ⟨[], [], [], [], false, Ev.bind ar ?_, Ev.bind oa ?_, fun _ => ⟨rfl, rfl⟩, by simp⟩
      · simp only [List.all_cons, List.all_nil, ka, kb, Bool.and_true, if_true, if_pos hb0]
        exact Ev.now _
      · simp only [ka, if_true]
        refine Ev.bind ob ?_
        simp only [kb, if_true, if_pos hb0]
        exact Ev.now _
    · have hne : b ≠ [] := by rintro rfl; simp at hb0
      obtain ⟨q, r, v1, t1, qd, qn, rd', rn, ql, rl, e1⟩ := natDiv_eq da db na nb hne (by omega) (by omega)
      obtain ⟨q2, r2, v2, t2, qd2, qn2, rd2, rn2, e2⟩ := specDiv_eq da db nb hne (by omega) (by omega)
      have q0 := val_nonneg qd
      have r0 := val_nonneg rd'
      have hm : val q * 1 ≤ val q * val b := Int.mul_le_mul_of_nonneg_left (by omega) q0
      have lq := len_le_of_val da qd qn (by omega)
      have lr := len_le_of_val db rd' rn (by omega)
      refine ⟨q, r, q2, r2, true, Ev.bind ar ?_, Ev.bind oa ?_, by simp, fun _ => ⟨ka, kb, (natOk_iff q).2 ⟨by omega, qd, qn⟩, (natOk_iff r).2 ⟨by omega, rd', rn⟩, v1, t1⟩⟩
      · simp only [List.all_cons, List.all_nil, ka, kb, Bool.and_true, if_true, if_neg hb0]
        exact Ev.bind e1 (Ev.now _)
      · simp only [ka, if_true]
        refine Ev.bind ob ?_
        simp only [kb, if_true, if_neg hb0]
        exact Ev.bind e2 (Ev.now _)
  · refine ⟨[], [], [], [], false, Ev.bind ar ?_, Ev.bind oa ?_, fun _ => ⟨rfl, rfl⟩, by simp⟩
    · rw [ok2 k]
      simpa using Ev.now (([] : List Int), ([] : List Int), false)
    · cases ka : natOk a with
      | false => simpa using Ev.now (([] : List Int), ([] : List Int), false)
      | true =>
        simp only [if_true]
        refine Ev.bind ob ?_
        cases kb : natOk b with
        | true => exact absurd ⟨ka, kb⟩ k
        | false => simpa using Ev.now (([] : List Int), ([] : List Int), false)

theorem goodWay (l a b q r : List Int) (t : Bool) (hw : ∀ x ∈ l, 0 ≤ x ∧ x ≤ 255) (hl : l.length ≤ 1048576) (ka : natOk a = true) (kb : natOk b = true) (kq : natOk q = true) (kr : natOk r = true) (hv : val q * val b + val r = val a) (hlt : val r < val b) :
    Ev (fun k => laws_FnDivided.j0 k l a b q r t t false) true := by
  obtain ⟨a0, a1, a2⟩ := natOk_lt ka
  have hp : (65536 : Int) ^ a.length ≤ 65536 ^ 64 := pow_mono a2
  obtain ⟨r0, _, _⟩ := natOk_lt kr
  obtain ⟨p, f1, ep, hf1⟩ := NatMul_ok kq kb
  cases f1 with
  | false => exact absurd hf1.no (by omega)
  | true =>
    obtain ⟨kp, vp⟩ := hf1.ok
    obtain ⟨s, f2, es, hf2⟩ := NatAdd_ok kp kr
    rw [vp] at hf2
    cases f2 with
    | false => exact absurd hf2.no (by omega)
    | true =>
      obtain rfl := hf2.same ka hv.symm
      have hc := NatCompare_ok kr kb
      have e : cmpI (val r) (val b) = -1 := by unfold cmpI; rw [if_pos hlt]
      rw [e] at hc
      refine Ev.step (fun k => by rw [laws_FnDivided.j0]) ?_
      simp only [Bool.false_eq_true, if_false]
      refine Ev.bind ep (Ev.bind es ?_)
      simp only [if_true]
      refine Ev.bind (sameInts_eq s (by omega)) ?_
      simp only [if_true]
      refine Ev.bind hc ?_
      simp only [bne_self_eq_false]
      exact bytesWay l s hw hl ka

theorem FnDivided : laws_FnDivided.Pure := by
  intro l _ _ hw
  have hw := wfu8 hw
  refine Ev.rounds (r := true) ?_
  unfold laws_FnDivided.f laws_big.f
  simp only [Option.bind_some]
  by_cases h : (l.length : Int) > 1048576
  · simp only [h, decide_true, if_true]; exact Ev.now _
  simp only [h, decide_false, Bool.false_eq_true, if_false]
  obtain ⟨a, b, la, lb, e⟩ := draws l (by omega)
  obtain ⟨q, r, q', r', t, e1, e2, hf, ht⟩ := divs a b la lb
  refine Ev.bind e (Ev.bind e1 (Ev.bind e2 ?_))
  simp only [bne_self_eq_false, Bool.false_eq_true, if_false]
  cases t with
  | false =>
    obtain ⟨rfl, rfl⟩ := hf rfl
    refine Ev.step (fun k => by rw [laws_FnDivided.j0]) ?_
    simp only [Bool.not_false, if_true, beq_self_eq_true, List.length_nil]
    simpa using Ev.now true
  | true =>
    obtain ⟨ka, kb, kq, kr, hv, hlt⟩ := ht rfl
    simp only [Bool.not_true]
    exact goodWay l a b q r true hw (by omega) ka kb kq kr hv hlt

end Go.Proofs.Ytehdmpfeddieoaa.Pure
