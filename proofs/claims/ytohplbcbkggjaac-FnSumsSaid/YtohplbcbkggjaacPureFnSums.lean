/- The law FnSums answers true at all bytes: what is drawn adds, subtracts and multiplies as what it is worth does. -/
import Derived.Test.YtohplbcbkggjaacPFnSumsx5
import Derived.Test.YtohplbcbkggjaacMDig
namespace Go.Proofs.Ytohplbcbkggjaac.Pure
open Go.RowKit Go.Proofs.Ytohplbcbkggjaac.PFnSums Go.Proofs.YtohplbcbkggjaacW.PrintWords Go.Proofs.YtohplbcbkggjaacW.PrintLast Go.Proofs.Ytohplbcbkggjaac.Plain

set_option linter.unusedVariables false
set_option linter.unusedSimpArgs false

theorem w64 {n : Int} (h : -9223372036854775808 ≤ n) (h' : n ≤ 9223372036854775807) : wrap64 n = n := by
  unfold wrap64
  omega

theorem wf64 {n : Int} (h : (Lit.int .i64 n).wf = true) : -9223372036854775808 ≤ n ∧ n ≤ 9223372036854775807 := by
  simpa [Lit.wf, IntKind.min, IntKind.max, IntKind.signed, IntKind.bits] using h

theorem wsucc {i : Nat} (h : i ≤ 1099511627776) : wrap64 ((i : Int) + 1) = ((i + 1 : Nat) : Int) := by
  rw [w64 (by omega) (by omega)]
  omega

theorem wpred {i : Nat} (h : i ≤ 1099511627776) : wrap64 (((i + 1 : Nat) : Int) - 1) = (i : Int) := by
  rw [w64 (by omega) (by omega)]
  omega

theorem in_eq (n a b : Int) : spec_l1In.f n a b = some (decide (a ≤ n ∧ n ≤ b)) := by
  unfold spec_l1In.f
  by_cases h : n ≥ a
  · rw [if_pos h]
    have : a ≤ n := h
    simp [this]
  · rw [if_neg h]
    have : ¬ a ≤ n := h
    simp [this]

theorem within_eq (n a b : Int) : impl_within.f n a b = some (decide (a ≤ n ∧ n ≤ b)) := by
  unfold impl_within.f
  by_cases h : n ≥ a
  · rw [if_pos h]
    have : a ≤ n := h
    simp [this]
  · rw [if_neg h]
    have : ¬ a ≤ n := h
    simp [this]

theorem specNatOk_loop (l : List Int) (hl : l.length ≤ 1099511627776) : ∀ (d : Nat) (i : Int), 0 ≤ i → (l.length : Int) - i = d →
    Ev (fun k => spec_NatOk.l0 k l i) ((l.drop i.toNat).all (fun d => decide (0 ≤ d ∧ d ≤ 65535)) && decide (l.length ≤ 64) && (l.isEmpty || (l.getD (l.length - 1) 0 != 0))) := by
  intro d
  induction d with
  | zero =>
    intro i h0 hd
    refine Ev.step (fun k => by rw [spec_NatOk.l0]) ?_
    simp only [if_neg (show ¬ i < (l.length : Int) by omega)]
    rw [List.drop_eq_nil_of_le (by omega)]
    by_cases h1 : (l.length : Int) ≤ 64
    · simp only [if_pos h1, show l.length ≤ 64 by omega]
      by_cases h2 : (l.length : Int) = 0
      · obtain rfl : l = [] := List.length_eq_zero_iff.1 (by omega)
        simpa using Ev.now true
      · have e : wrap64 ((l.length : Int) - 1) = (l.length : Int) - 1 := w64 (by omega) (by omega)
        have hne : l.isEmpty = false := by cases l with | nil => simp at h2 | cons a l => rfl
        simp only [if_neg h2, e, if_pos (show 0 ≤ (l.length : Int) - 1 by omega), if_pos (show (l.length : Int) - 1 < l.length by omega), hne, rd, show ((l.length : Int) - 1).toNat = l.length - 1 by omega]
        simpa using Ev.now _
    · simp only [if_neg h1, show ¬ l.length ≤ 64 by omega]
      simpa using Ev.now false
  | succ d ih =>
    intro i h0 hd
    refine Ev.step (fun k => by rw [spec_NatOk.l0]) ?_
    have hi : i.toNat < l.length := by omega
    rw [List.drop_eq_getElem_cons hi, List.all_cons]
    have hr : rd l i = l[i.toNat] := by simp [rd, List.getD_eq_getElem?_getD, List.getElem?_eq_getElem hi]
    simp only [if_pos (show i < (l.length : Int) by omega), if_pos h0, in_eq, hr, Option.bind_some]
    by_cases h1 : 0 ≤ l[i.toNat] ∧ l[i.toNat] ≤ 65535
    · simp only [h1.1, h1.2, and_self, decide_true, if_true, Bool.true_and]
      rw [w64 (by omega) (by omega)]
      have := ih (i + 1) (by omega) (by omega)
      rwa [show (i + 1).toNat = i.toNat + 1 by omega] at this
    · simp only [h1, decide_false, Bool.false_and]
      simpa using Ev.now false

theorem specNatOk_eq (l : List Int) (hl : l.length ≤ 1099511627776) : Ev (fun k => spec_NatOk.f k l) (natOk l) := by
  unfold spec_NatOk.f natOk
  have := specNatOk_loop l hl l.length 0 (by omega) (by omega)
  rw [Int.toNat_zero, List.drop_zero] at this
  rwa [Bool.and_comm (decide (l.length ≤ 64))]

theorem allWithin_loop (l : List Int) (a b : Int) (hl : l.length ≤ 1099511627776) : ∀ (d : Nat) (i : Int), 0 ≤ i → (l.length : Int) - i = d →
    Ev (fun k => impl_allWithin.l0 k a b l (l.length : Int) i) ((l.drop i.toNat).all (fun d => decide (a ≤ d ∧ d ≤ b))) := by
  intro d
  induction d with
  | zero =>
    intro i h0 hd
    refine Ev.step (fun k => by rw [impl_allWithin.l0]) ?_
    simp only [if_neg (show ¬ i < (l.length : Int) by omega)]
    rw [List.drop_eq_nil_of_le (by omega)]
    exact Ev.now _
  | succ d ih =>
    intro i h0 hd
    refine Ev.step (fun k => by rw [impl_allWithin.l0]) ?_
    have hi : i.toNat < l.length := by omega
    rw [List.drop_eq_getElem_cons hi, List.all_cons]
    have hr : rd l i = l[i.toNat] := by simp [rd, List.getD_eq_getElem?_getD, List.getElem?_eq_getElem hi]
    simp only [if_pos (show i < (l.length : Int) by omega), if_pos h0, within_eq, hr, Option.bind_some]
    by_cases h1 : a ≤ l[i.toNat] ∧ l[i.toNat] ≤ b
    · simp only [h1.1, h1.2, and_self, decide_true, if_true, Bool.true_and]
      rw [w64 (by omega) (by omega)]
      have := ih (i + 1) (by omega) (by omega)
      rwa [show (i + 1).toNat = i.toNat + 1 by omega] at this
    · simp only [h1, decide_false, Bool.false_and]
      simpa using Ev.now false

theorem allWithin_eq (l : List Int) (a b : Int) (hl : l.length ≤ 1099511627776) : Ev (fun k => impl_allWithin.f k l a b) (l.all (fun d => decide (a ≤ d ∧ d ≤ b))) := by
  unfold impl_allWithin.f
  have := allWithin_loop l a b hl l.length 0 (by omega) (by omega)
  rwa [Int.toNat_zero, List.drop_zero] at this

theorem implNatOk_eq (l : List Int) (hl : l.length ≤ 1099511627776) : Ev (fun k => impl_NatOk.f k l) (natOk l) := by
  unfold impl_NatOk.f natOk
  by_cases h1 : (l.length : Int) ≤ 64
  · simp only [if_pos h1, show l.length ≤ 64 by omega, decide_true, Bool.true_and]
    refine Ev.bind (allWithin_eq l 0 65535 hl) ?_
    by_cases h3 : l.all (fun d => decide (0 ≤ d ∧ d ≤ 65535)) = true
    · simp only [h3, if_true, Bool.true_and]
      by_cases h2 : (l.length : Int) = 0
      · obtain rfl : l = [] := List.length_eq_zero_iff.1 (by omega)
        simpa using Ev.now true
      · have e : wrap64 ((l.length : Int) - 1) = (l.length : Int) - 1 := w64 (by omega) (by omega)
        have hne : l.isEmpty = false := by cases l with | nil => simp at h2 | cons a l => rfl
        simp only [if_neg h2, e, if_pos (show 0 ≤ (l.length : Int) - 1 by omega), if_pos (show (l.length : Int) - 1 < l.length by omega), hne, rd, show ((l.length : Int) - 1).toNat = l.length - 1 by omega]
        simpa using Ev.now _
    · simp only [h3, Bool.false_and]
      simpa using Ev.now false
  · simp only [if_neg h1, show ¬ l.length ≤ 64 by omega]
    simpa using Ev.now false

theorem cmpCompare_eq (x y : Int) : cmp_Compare_int.f x y = some (cmpI x y) := by
  unfold cmp_Compare_int.f cmp_isNaN_int.f cmpI
  simp only [bne_self_eq_false, Option.bind_some, Bool.false_eq_true, if_false]
  split
  · rfl
  · split <;> rfl

theorem implCompare_loop {a b : List Int} (ha : Dg a) (hb : Dg b) (hl : a.length = b.length) (hn : a.length ≤ 1048576) : ∀ (n : Nat) (i : Int), i = (n : Int) - 1 → n ≤ a.length →
    Ev (fun k => impl_natCompare.l0 k a b i) (cmpI (val (a.take n)) (val (b.take n))) := by
  intro n
  induction n with
  | zero =>
    intro i hi hn
    refine Ev.step (fun k => by rw [impl_natCompare.l0]) ?_
    simp only [if_neg (show ¬ i ≥ 0 by omega)]
    simpa [cmpI, val] using Ev.now (0 : Int)
  | succ n ih =>
    intro i hi hn'
    refine Ev.step (fun k => by rw [impl_natCompare.l0]) ?_
    have hr : i.toNat = n := by omega
    rw [cmp_take ha hb (by omega) (by omega)]
    simp only [if_pos (show i ≥ 0 by omega), if_pos (show 0 ≤ i by omega), if_pos (show i < (a.length : Int) by omega), if_pos (show i < (b.length : Int) by omega), rd, hr, cmpCompare_eq, Option.bind_some]
    by_cases h0 : a.getD n 0 = b.getD n 0
    · simp only [if_pos h0, if_neg (show ¬ a.getD n 0 < b.getD n 0 by omega), if_neg (show ¬ a.getD n 0 > b.getD n 0 by omega)]
      rw [w64 (by omega) (by omega)]
      exact ih (i - 1) (by omega) (by omega)
    · simp only [if_neg h0]
      have : (if a.getD n 0 < b.getD n 0 then (-1 : Int) else if a.getD n 0 > b.getD n 0 then 1 else cmpI (val (a.take n)) (val (b.take n))) = cmpI (a.getD n 0) (b.getD n 0) := by
        unfold cmpI
        split
        · rfl
        · split
          · rfl
          · omega
      rw [this]
      exact Ev.now _

theorem implCompare_eq {a b : List Int} (ha : Dg a) (hb : Dg b) (na : Nm a) (nb : Nm b) (hn : a.length ≤ 1048576) (hn' : b.length ≤ 1048576) : Ev (fun k => impl_natCompare.f k a b) (cmpI (val a) (val b)) := by
  unfold impl_natCompare.f
  by_cases h : a.length = b.length
  · simp only [if_pos (show (a.length : Int) = b.length by omega)]
    rw [w64 (by omega) (by omega)]
    have := implCompare_loop ha hb h hn a.length ((a.length : Int) - 1) rfl (Nat.le_refl _)
    rwa [List.take_length, h, List.take_length, ← h] at this
  · simp only [if_neg (show ¬ (a.length : Int) = b.length by omega), cmpCompare_eq, Option.bind_some]
    rw [cmp_len ha hb na nb h]
    have : cmpI (a.length : Int) (b.length : Int) = if a.length < b.length then -1 else 1 := by
      unfold cmpI
      by_cases h1 : a.length < b.length
      · rw [if_pos (by omega), if_pos h1]
      · rw [if_neg (by omega), if_pos (by omega), if_neg h1]
    rw [this]
    exact Ev.now _

theorem indexFunc_loop (ls : List (List Int)) (hl : ls.length ≤ 1048576) (hs : ∀ l ∈ ls, l.length ≤ 1099511627776) : ∀ (d : Nat) (i : Int), 0 ≤ i → (ls.length : Int) - i = d →
    ∃ r, Ev (fun k => slices_IndexFunc_int_int.l0 k ls (ls.length : Int) i) r ∧ (0 ≤ r ↔ (ls.drop i.toNat).all natOk = false) := by
  intro d
  induction d with
  | zero =>
    intro i h0 hd
    refine ⟨-1, Ev.step (fun k => by rw [slices_IndexFunc_int_int.l0]) ?_, ?_⟩
    · simp only [if_neg (show ¬ i < (ls.length : Int) by omega)]
      exact Ev.now _
    · rw [List.drop_eq_nil_of_le (by omega)]
      simp
  | succ d ih =>
    intro i h0 hd
    have hi : i.toNat < ls.length := by omega
    have hr : rd_L2 ls i = ls[i.toNat] := by
      simp [rd_L2, List.getD_eq_getElem?_getD, List.getElem?_eq_getElem hi]
    rw [List.drop_eq_getElem_cons hi, List.all_cons]
    have hk := implNatOk_eq ls[i.toNat] (hs _ (List.getElem_mem hi))
    have hc : Ev (fun k => impl_areNats_1.f k ls[i.toNat]) (!natOk ls[i.toNat]) := by
      unfold impl_areNats_1.f
      exact Ev.bind hk (Ev.now _)
    cases hb : natOk ls[i.toNat] with
    | false =>
      rw [hb] at hc
      refine ⟨i, Ev.step (fun k => by rw [slices_IndexFunc_int_int.l0]) ?_, by simp [h0]⟩
      simp only [if_pos (show i < (ls.length : Int) by omega), if_pos h0, hr]
      refine Ev.bind hc ?_
      simpa using Ev.now i
    | true =>
      rw [hb] at hc
      obtain ⟨r, hr', he⟩ := ih (i + 1) (by omega) (by omega)
      refine ⟨r, Ev.step (fun k => by rw [slices_IndexFunc_int_int.l0]) ?_, ?_⟩
      · simp only [if_pos (show i < (ls.length : Int) by omega), if_pos h0, hr]
        refine Ev.bind hc ?_
        rw [w64 (n := i + 1) (by omega) (by omega)]
        simpa using hr'
      · rw [he, show (i + 1).toNat = i.toNat + 1 by omega]
        simp

theorem areNats_eq (ls : List (List Int)) (hl : ls.length ≤ 1048576) (hs : ∀ l ∈ ls, l.length ≤ 1099511627776) : Ev (fun k => impl_areNats.f k ls) (ls.all natOk) := by
  obtain ⟨r, hr, he⟩ := indexFunc_loop ls hl hs ls.length 0 (by omega) (by omega)
  unfold impl_areNats.f slices_ContainsFunc_int_int.f slices_IndexFunc_int_int.f
  refine Ev.bind (Ev.bind hr (Ev.now _)) ?_
  have : (!decide (r ≥ 0)) = ls.all natOk := by
    rw [Int.toNat_zero, List.drop_zero] at he
    cases hb : ls.all natOk with
    | true => rw [hb] at he; simp at he; simp; omega
    | false => rw [hb] at he; simp at he; simp; omega
  rw [this]
  exact Ev.now _

theorem ok2 {a b : List Int} (k : ¬ (natOk a = true ∧ natOk b = true)) : [a, b].all natOk = false := by
  simp only [List.all_cons, List.all_nil, Bool.and_true]
  cases ka : natOk a with
  | false => rfl
  | true =>
    cases kb : natOk b with
    | true => exact absurd ⟨ka, kb⟩ k
    | false => rfl

theorem arOf {a b : List Int} (h1 : a.length ≤ 1048576) (h2 : b.length ≤ 1048576) : Ev (fun k => impl_areNats.f k [a, b]) ([a, b].all natOk) :=
  areNats_eq [a, b] (by simp) (by intro l hl; simp at hl; rcases hl with rfl | rfl <;> omega)

theorem trimmed_loop (l : List Int) (hl : l.length ≤ 1099511627776) : ∀ (n : Nat), n ≤ l.length → Ev (fun k => impl_trimmed.l0 k l (n : Int)) (trim (l.take n)) := by
  intro n
  induction n with
  | zero =>
    intro _
    refine Ev.step (fun k => by rw [impl_trimmed.l0]) ?_
    simp only [if_neg (show ¬ ((0 : Nat) : Int) > 0 by omega), if_pos (show 0 ≤ ((0 : Nat) : Int) by omega), if_pos (show ((0 : Nat) : Int) ≤ (l.length : Int) by omega)]
    simpa [trim] using Ev.now ([] : List Int)
  | succ n ih =>
    intro hn
    refine Ev.step (fun k => by rw [impl_trimmed.l0]) ?_
    rw [take_snoc (show n < l.length by omega)]
    simp only [if_pos (show ((n + 1 : Nat) : Int) > 0 by omega), wpred (show n ≤ 1099511627776 by omega), if_pos (show 0 ≤ (n : Int) by omega), if_pos (show (n : Int) < (l.length : Int) by omega), rd, Int.toNat_natCast]
    by_cases h : l.getD n 0 = 0
    · simp only [h, if_true, trim_snoc_zero]
      exact ih (by omega)
    · simp only [if_neg h, if_pos (show 0 ≤ ((n + 1 : Nat) : Int) by omega), if_pos (show ((n + 1 : Nat) : Int) ≤ (l.length : Int) by omega), trim_snoc _ h, take_snoc (show n < l.length by omega)]
      exact Ev.now _

theorem trimmed_eq (l : List Int) (hl : l.length ≤ 1099511627776) : Ev (fun k => impl_trimmed.f k l) (trim l) := by
  have := trimmed_loop l hl l.length (Nat.le_refl _)
  rw [List.take_length] at this
  exact this

theorem norm_loop (l : List Int) (hl : l.length ≤ 1099511627776) : ∀ (n : Nat), n ≤ l.length → Ev (fun k => spec_l1Norm.l0 k l (n : Int)) (trim (l.take n)) := by
  intro n
  induction n with
  | zero =>
    intro _
    refine Ev.step (fun k => by rw [spec_l1Norm.l0]) ?_
    simp only [if_neg (show ¬ ((0 : Nat) : Int) > 0 by omega), if_pos (show 0 ≤ ((0 : Nat) : Int) by omega), if_pos (show ((0 : Nat) : Int) ≤ (l.length : Int) by omega)]
    simpa [trim] using Ev.now ([] : List Int)
  | succ n ih =>
    intro hn
    refine Ev.step (fun k => by rw [spec_l1Norm.l0]) ?_
    rw [take_snoc (show n < l.length by omega)]
    simp only [if_pos (show ((n + 1 : Nat) : Int) > 0 by omega), wpred (show n ≤ 1099511627776 by omega), if_pos (show 0 ≤ (n : Int) by omega), if_pos (show (n : Int) < (l.length : Int) by omega), rd, Int.toNat_natCast]
    by_cases h : l.getD n 0 = 0
    · simp only [h, if_true, trim_snoc_zero]
      exact ih (by omega)
    · simp only [if_neg h, if_pos (show 0 ≤ ((n + 1 : Nat) : Int) by omega), if_pos (show ((n + 1 : Nat) : Int) ≤ (l.length : Int) by omega), trim_snoc _ h, Option.bind_some, List.nil_append, List.length_nil]
      rw [if_pos (by rw [List.length_take]; omega), take_snoc (show n < l.length by omega)]
      exact Ev.now _

theorem norm_eq (l : List Int) (hl : l.length ≤ 1099511627776) : Ev (fun k => spec_l1Norm.f k l) (trim l) := by
  have := norm_loop l hl l.length (Nat.le_refl _)
  rw [List.take_length] at this
  exact this

theorem getD_out {l : List Int} {i : Nat} (h : ¬ (i : Int) < (l.length : Int)) : l.getD i 0 = 0 := by
  rw [List.getD_eq_getElem?_getD, List.getElem?_eq_none (by omega)]
  rfl

theorem implSub_loop {a b : List Int} (ha : Dg a) (hb : Dg b) (nb : Nm b) (hv : val b ≤ val a) (h1 : a.length ≤ 1048576) : ∀ (d i : Nat) (x : List Int) (c : Int), a.length = i + d → SubInv a b x c i →
    ∃ r, val r = val a - val b ∧ Dg r ∧ r.length = a.length ∧ Ev (fun k => impl_natSub.l0 k b x c a (a.length : Int) (i : Int)) (trim r) := by
  intro d
  induction d with
  | zero =>
    intro i x c hi h
    obtain rfl : i = a.length := by omega
    refine ⟨x, h.done ha hb nb hv, h.dg, h.len, Ev.step (fun k => by rw [impl_natSub.l0]) ?_⟩
    simp only [if_neg (show ¬ (a.length : Int) < (a.length : Int) by omega)]
    exact Ev.bind (trimmed_eq x (by rw [h.len]; omega)) (Ev.now _)
  | succ d ih =>
    intro i x c hi h
    have b1 := ha.getD i
    have b2 := hb.getD i
    have c0 := h.c0
    have c1 := h.c1
    have len := h.len
    have key : ∀ y : Int, y = b.getD i 0 → ∃ r, val r = val a - val b ∧ Dg r ∧ r.length = a.length ∧
        Ev (fun k => if wrap64 (wrap64 (a.getD i 0 - c) - y) < 0 then (if x.length < 17592186044416 then impl_natSub.l0 k b (x ++ [wrap64 (wrap64 (wrap64 (a.getD i 0 - c) - y) + 65536)]) 1 a (a.length : Int) ((i + 1 : Nat) : Int) else none)
          else (if x.length < 17592186044416 then impl_natSub.l0 k b (x ++ [wrap64 (wrap64 (a.getD i 0 - c) - y)]) 0 a (a.length : Int) ((i + 1 : Nat) : Int) else none)) (trim r) := by
      intro y hy
      subst hy
      rw [w64 (n := a.getD i 0 - c) (by omega) (by omega), w64 (n := a.getD i 0 - c - b.getD i 0) (by omega) (by omega)]
      by_cases hlt : a.getD i 0 - c - b.getD i 0 < 0
      · obtain ⟨r, v, g, l, e⟩ := ih (i + 1) _ _ (by omega) (h.step_lt ha hb hlt)
        refine ⟨r, v, g, l, ?_⟩
        simp only [if_pos hlt, if_pos (show x.length < 17592186044416 by omega)]
        rw [w64 (by omega) (by omega)]
        exact e
      · obtain ⟨r, v, g, l, e⟩ := ih (i + 1) _ _ (by omega) (h.step_ge ha hb hlt)
        refine ⟨r, v, g, l, ?_⟩
        simp only [if_neg hlt, if_pos (show x.length < 17592186044416 by omega)]
        exact e
    by_cases p2 : (i : Int) < (b.length : Int)
    · obtain ⟨r, v, g, l, e⟩ := key (b.getD i 0) rfl
      refine ⟨r, v, g, l, Ev.step (fun k => by rw [impl_natSub.l0]) ?_⟩
      simp only [if_pos (show (i : Int) < (a.length : Int) by omega), if_pos (show 0 ≤ (i : Int) by omega), if_pos p2, rd, Int.toNat_natCast, wsucc (show i ≤ 1099511627776 by omega)]
      exact e
    · obtain ⟨r, v, g, l, e⟩ := key 0 (getD_out p2).symm
      refine ⟨r, v, g, l, Ev.step (fun k => by rw [impl_natSub.l0]) ?_⟩
      simp only [if_pos (show (i : Int) < (a.length : Int) by omega), if_pos (show 0 ≤ (i : Int) by omega), if_neg p2, rd, Int.toNat_natCast, wsucc (show i ≤ 1099511627776 by omega)]
      rw [w64 (n := a.getD i 0 - c) (by omega) (by omega), Int.sub_zero, w64 (n := a.getD i 0 - c) (by omega) (by omega)] at e
      rw [w64 (n := a.getD i 0 - c) (by omega) (by omega)]
      exact e

theorem implSub_eq {a b : List Int} (ha : Dg a) (hb : Dg b) (nb : Nm b) (hv : val b ≤ val a) (h1 : a.length ≤ 1048576) :
    ∃ r, val r = val a - val b ∧ Dg r ∧ Nm r ∧ r.length ≤ a.length ∧ Ev (fun k => impl_natSub.f k a b) r := by
  obtain ⟨r, v, d, l, e⟩ := implSub_loop ha hb nb hv h1 a.length 0 [] 0 (by omega) (SubInv.start a b)
  have := trim_len r
  exact ⟨trim r, by rw [trim_val, v], trim_dg d, trim_nm r, by omega, e⟩

theorem tm {x m : Int} (h : 0 ≤ x) : Int.tmod x m = x % m := Int.tmod_eq_emod_of_nonneg h
theorem td {x m : Int} (h : 0 ≤ x) : Int.tdiv x m = x / m := Int.tdiv_eq_ediv_of_nonneg h

theorem implAdd_loop {a b : List Int} (ha : Dg a) (hb : Dg b) (n : Nat) (hn : n ≤ 1048577) (h1 : a.length + 1 ≤ n) (h2 : b.length + 1 ≤ n) : ∀ (d i : Nat) (x : List Int) (c : Int), n = i + d → AddInv a b x c i →
    ∃ r, val r = val a + val b ∧ Dg r ∧ r.length = n ∧ Ev (fun k => impl_natAdd.l0 k a b x c (n : Int) (i : Int)) (trim r) := by
  intro d
  induction d with
  | zero =>
    intro i x c hi h
    obtain ⟨rfl, hv⟩ := h.done ha hb (by omega) (by omega)
    refine ⟨x, hv, h.dg, by rw [h.len]; omega, Ev.step (fun k => by rw [impl_natAdd.l0]) ?_⟩
    simp only [if_neg (show ¬ (i : Int) < (n : Int) by omega)]
    exact Ev.bind (trimmed_eq x (by rw [h.len]; omega)) (Ev.now _)
  | succ d ih =>
    intro i x c hi h
    obtain ⟨r, hv, hd, hl, hr⟩ := ih (i + 1) _ _ (by omega) (h.step ha hb)
    refine ⟨r, hv, hd, hl, Ev.step (fun k => by rw [impl_natAdd.l0]) ?_⟩
    have b1 := ha.getD i
    have b2 := hb.getD i
    have c0 := h.c0
    have c1 := h.c1
    have len := h.len
    simp only [if_pos (show (i : Int) < (n : Int) by omega), if_pos (show 0 ≤ (i : Int) by omega), if_pos (show x.length < 17592186044416 by omega), rd, Int.toNat_natCast, wsucc (show i ≤ 1099511627776 by omega)]
    by_cases p1 : (i : Int) < (a.length : Int)
    · by_cases p2 : (i : Int) < (b.length : Int)
      · simp only [if_pos p1, if_pos p2]
        rw [w64 (n := c + a.getD i 0) (by omega) (by omega), w64 (n := c + a.getD i 0 + b.getD i 0) (by omega) (by omega), tm (by omega), td (by omega), w64 (by omega) (by omega)]
        exact hr
      · simp only [if_pos p1, if_neg p2]
        rw [getD_out p2, Int.add_zero] at hr
        rw [w64 (n := c + a.getD i 0) (by omega) (by omega), tm (by omega), td (by omega), w64 (by omega) (by omega)]
        exact hr
    · rw [getD_out p1, Int.add_zero] at hr
      by_cases p2 : (i : Int) < (b.length : Int)
      · simp only [if_neg p1, if_pos p2]
        rw [w64 (n := c + b.getD i 0) (by omega) (by omega), tm (by omega), td (by omega), w64 (by omega) (by omega)]
        exact hr
      · simp only [if_neg p1, if_neg p2]
        rw [getD_out p2, Int.add_zero] at hr
        rw [tm (by omega), td (by omega), w64 (by omega) (by omega)]
        exact hr

theorem implAdd_eq {a b : List Int} (ha : Dg a) (hb : Dg b) (h1 : a.length ≤ 1048576) (h2 : b.length ≤ 1048576) :
    ∃ r, val r = val a + val b ∧ Dg r ∧ Nm r ∧ r.length ≤ 1048577 ∧ (r.length ≤ a.length + 1 ∨ r.length ≤ b.length + 1) ∧ Ev (fun k => impl_natAdd.f k a b) r := by
  unfold impl_natAdd.f
  have e : wrap64 (mx (a.length : Int) (b.length : Int) + 1) = ((max a.length b.length + 1 : Nat) : Int) := by
    have : mx (a.length : Int) (b.length : Int) = ((max a.length b.length : Nat) : Int) := by
      unfold mx
      split <;> omega
    rw [this, w64 (by omega) (by omega)]
    omega
  obtain ⟨r, hv, hd, hl, hr⟩ := implAdd_loop ha hb (max a.length b.length + 1) (by omega) (by omega) (by omega) (max a.length b.length + 1) 0 [] 0 (by omega) (AddInv.start a b)
  have := trim_len r
  refine ⟨trim r, by rw [trim_val, hv], trim_dg hd, trim_nm r, by omega, by omega, ?_⟩
  rw [e]
  exact hr

theorem waddn {i j : Nat} (h : i ≤ 1048576) (h' : j ≤ 1048576) : wrap64 ((i : Int) + (j : Int)) = ((i + j : Nat) : Int) := by
  rw [w64 (by omega) (by omega)]
  omega

theorem mul_wrap {c o x y : Int} (c0 : 0 ≤ c) (c1 : c ≤ 65535) (o0 : 0 ≤ o) (o1 : o < 65536) (x0 : 0 ≤ x) (x1 : x < 65536) (y0 : 0 ≤ y) (y1 : y < 65536) :
    wrap64 (x * y) = x * y ∧ wrap64 (o + x * y) = o + x * y ∧ wrap64 (c + (o + x * y)) = c + (o + x * y) ∧ wrap64 (o + x * y + c) = c + (o + x * y) ∧
    Int.tmod (c + (o + x * y)) 65536 = (c + (o + x * y)) % 65536 ∧ wrap64 (Int.tdiv (c + (o + x * y)) 65536) = (c + (o + x * y)) / 65536 := by
  obtain ⟨h1, h2, h3, h4⟩ := mul_bound c0 c1 o0 o1 x0 x1 y0 y1
  generalize x * y = z at *
  refine ⟨w64 (by omega) (by omega), w64 (by omega) (by omega), w64 (by omega) (by omega), by rw [w64 (by omega) (by omega)]; omega, Int.tmod_eq_emod_of_nonneg h3, ?_⟩
  rw [Int.tdiv_eq_ediv_of_nonneg h3, w64 (by omega) (by omega)]

theorem implMul_row {a b : List Int} (ha : Dg a) (hb : Dg b) (h1 : a.length ≤ 1048576) (h2 : b.length ≤ 1048576) {i : Nat} (hi : i < a.length) :
    ∀ (d j : Nat) (o : List Int) (c : Int), b.length = j + d → MulIn a b o c i j → ∃ o', MulOut a b o' (i + 1) ∧ ∀ R, Ev (fun k => impl_natMul.l0 k b o' a (a.length : Int) ((i + 1 : Nat) : Int)) R →
      Ev (fun k => impl_natMul.l1 k b o (i : Int) (a.getD i 0) c a (a.length : Int) (i : Int) b (b.length : Int) (j : Int)) R := by
  intro d
  induction d with
  | zero =>
    intro j o c hj h
    obtain rfl : j = b.length := by omega
    have hlen := h.len
    refine ⟨_, h.leave hi, fun R hR => Ev.step (fun k => by rw [impl_natMul.l1]) ?_⟩
    simp only [if_neg (show ¬ (b.length : Int) < (b.length : Int) by omega), waddn (show i ≤ 1048576 by omega) (show b.length ≤ 1048576 by omega), if_pos (show 0 ≤ ((i + b.length : Nat) : Int) by omega),
      if_pos (show ((i + b.length : Nat) : Int) < (o.length : Int) by omega), Int.toNat_natCast, wsucc (show i ≤ 1099511627776 by omega)]
    exact hR
  | succ d ih =>
    intro j o c hj h
    have hlen := h.len
    have q1 : (j : Int) < (b.length : Int) := by omega
    have q2 : 0 ≤ (j : Int) := by omega
    have q3 : 0 ≤ ((i + j : Nat) : Int) := by omega
    have q4 : ((i + j : Nat) : Int) < (o.length : Int) := by omega
    have q5 : wrap64 ((i : Int) + (j : Int)) = ((i + j : Nat) : Int) := by exact waddn (by omega) (by omega)
    have q6 : wrap64 ((j : Int) + 1) = ((j + 1 : Nat) : Int) := by exact wsucc (by omega)
    have b1 := ha.getD i
    have b2 := hb.getD j
    have b3 := h.dg.getD (i + j)
    obtain ⟨w1, w2, w3, w4, w5, w6⟩ := mul_wrap h.c0 h.c1 b3.1 b3.2 b1.1 b1.2 b2.1 b2.2
    obtain ⟨o', ho', hr⟩ := ih (j + 1) _ _ (by omega) (h.step ha hb hi (by omega))
    refine ⟨o', ho', fun R hR => Ev.step (fun k => by rw [impl_natMul.l1]) ?_⟩
    have := hr R hR
    clear hr
    simp only [if_pos q1, if_pos q2, q5, if_pos q3, if_pos q4, rd, Int.toNat_natCast, q6, w1, w2, w3, w5, w6]
    exact this

theorem implMul_loop {a b : List Int} (ha : Dg a) (hb : Dg b) (h1 : a.length ≤ 1048576) (h2 : b.length ≤ 1048576) : ∀ (d i : Nat) (o : List Int), a.length = i + d → MulOut a b o i →
    ∃ r, val r = val a * val b ∧ Dg r ∧ r.length = a.length + b.length ∧ Ev (fun k => impl_natMul.l0 k b o a (a.length : Int) (i : Int)) (trim r) := by
  intro d
  induction d with
  | zero =>
    intro i o hi h
    obtain rfl : i = a.length := by omega
    have hlen := h.len
    refine ⟨o, h.done, h.dg, h.len, Ev.step (fun k => by rw [impl_natMul.l0]) ?_⟩
    simp only [if_neg (show ¬ (a.length : Int) < (a.length : Int) by omega)]
    exact Ev.bind (trimmed_eq o (by omega)) (Ev.now _)
  | succ d ih =>
    intro i o hi h
    obtain ⟨o', ho', hr⟩ := implMul_row ha hb h1 h2 (i := i) (by omega) b.length 0 o 0 (by omega) h.enter
    obtain ⟨r, v, g, l, e⟩ := ih (i + 1) o' (by omega) ho'
    refine ⟨r, v, g, l, Ev.step (fun k => by rw [impl_natMul.l0]) ?_⟩
    simp only [if_pos (show (i : Int) < (a.length : Int) by omega), if_pos (show 0 ≤ (i : Int) by omega), rd, Int.toNat_natCast]
    exact hr _ e

theorem implMul_eq {a b : List Int} (ha : Dg a) (hb : Dg b) (h1 : a.length ≤ 1048576) (h2 : b.length ≤ 1048576) :
    ∃ r, val r = val a * val b ∧ Dg r ∧ Nm r ∧ r.length ≤ a.length + b.length ∧ Ev (fun k => impl_natMul.f k a b) r := by
  obtain ⟨r, v, d, l, e⟩ := implMul_loop ha hb h1 h2 a.length 0 _ (by omega) (MulOut.start a b)
  have := trim_len r
  refine ⟨trim r, by rw [trim_val, v], trim_dg d, trim_nm r, by omega, ?_⟩
  unfold impl_natMul.f
  simp only [waddn h1 h2, if_pos (show 0 ≤ ((a.length + b.length : Nat) : Int) by omega), Int.toNat_natCast, if_pos (show a.length + b.length ≤ 35184372088832 by omega)]
  exact e

theorem sameInts_loop (l : List Int) (hl : l.length ≤ 1099511627776) : ∀ (d : Nat) (i : Int), 0 ≤ i → (l.length : Int) - i = d → Ev (fun k => laws_sameInts.l0 k l l i) true := by
  intro d
  induction d with
  | zero =>
    intro i h0 hd
    refine Ev.step (fun k => by rw [laws_sameInts.l0]) ?_
    simp only [if_neg (show ¬ i < (l.length : Int) by omega)]
    exact Ev.now _
  | succ d ih =>
    intro i h0 hd
    refine Ev.step (fun k => by rw [laws_sameInts.l0]) ?_
    simp only [if_pos (show i < (l.length : Int) by omega), if_pos h0, if_true]
    rw [w64 (n := i + 1) (by omega) (by omega)]
    exact ih (i + 1) (by omega) (by omega)

theorem sameInts_eq (l : List Int) (hl : l.length ≤ 1099511627776) : Ev (fun k => laws_sameInts.f k l l) true := by
  unfold laws_sameInts.f
  simp only [if_true]
  exact sameInts_loop l hl l.length 0 (by omega) (by omega)

theorem at_some {l : List Int} (hw : ∀ x ∈ l, 0 ≤ x ∧ x ≤ 255) (hl : l.length ≤ 1048576) {i : Int} (h0 : 0 ≤ i) (h1 : i ≤ 1000) : ∃ v, laws_at.f l i = some v ∧ 0 ≤ v ∧ v ≤ 255 := by
  unfold laws_at.f
  by_cases h : i < (l.length : Int)
  · rw [if_pos h, if_pos h0]
    have hm := hw (rd l i) (by
      unfold rd
      rw [List.getD_eq_getElem?_getD, List.getElem?_eq_getElem (by omega), Option.getD_some]
      exact List.getElem_mem _)
    exact ⟨_, rfl, by rw [w64 (by omega) (by omega)]; omega, by rw [w64 (by omega) (by omega)]; omega⟩
  · rw [if_neg h]
    refine ⟨_, rfl, ?_⟩
    rw [w64 (n := i * 7) (by omega) (by omega), w64 (by omega) (by omega), Int.tmod_eq_emod_of_nonneg (by omega)]
    omega

theorem wfu8 {l : List Int} (h : ∀ x ∈ l, (Lit.int .u8 x).wf = true) : ∀ x ∈ l, 0 ≤ x ∧ x ≤ 255 := by
  intro x hx
  have := h x hx
  simpa [Lit.wf, IntKind.min, IntKind.max, IntKind.signed, IntKind.bits] using this

theorem implNatOf_loop : ∀ (m : Nat) (a : Int) (x : List Int), a < 65536 ^ m → 0 ≤ a → a ≤ 9223372036854775807 → x.length + m ≤ 100 → Dg x → (a = 0 → Nm x) →
    ∃ r, r.length ≤ x.length + m ∧ Dg r ∧ Nm r ∧ val r = val x + 65536 ^ x.length * a ∧ Ev (fun k => impl_natOf.l0 k a x) r := by
  intro m
  induction m with
  | zero =>
    intro a x h1 h0 h2 h3 hd hn
    have : a = 0 := by simp at h1; omega
    subst this
    refine ⟨x, by omega, hd, hn rfl, by simp, Ev.step (fun k => by rw [impl_natOf.l0]) ?_⟩
    simp only [if_neg (show ¬ (0 : Int) > 0 by omega)]
    exact Ev.now _
  | succ m ih =>
    intro a x h1 h0 h2 h3 hd hn
    by_cases hp : a > 0
    · have e1 : a.tdiv 65536 = a / 65536 := Int.tdiv_eq_ediv_of_nonneg (by omega)
      have e2 : a.tmod 65536 = a % 65536 := Int.tmod_eq_emod_of_nonneg (by omega)
      rw [Int.pow_succ] at h1
      obtain ⟨r, hr, d, n, v, e⟩ := ih (a / 65536) (x ++ [a % 65536]) (by omega) (by omega) (by omega) (by simp; omega) (hd.snoc (by omega) (by omega)) (fun k => by
        unfold Nm
        simp
        omega)
      refine ⟨r, by simp at hr; omega, d, n, ?_, Ev.step (fun k => by rw [impl_natOf.l0]) ?_⟩
      · rw [v, val_snoc, List.length_append, List.length_singleton, Int.pow_succ]
        have : a = a % 65536 + 65536 * (a / 65536) := by omega
        generalize a % 65536 = u at *
        generalize a / 65536 = w at *
        generalize (65536 : Int) ^ x.length = P at *
        subst this
        grind
      · simp only [if_pos hp, if_pos (show x.length < 17592186044416 by omega), e1, e2]
        rw [w64 (by omega) (by omega)]
        exact e
    · have : a = 0 := by omega
      subst this
      refine ⟨x, by omega, hd, hn rfl, by simp, Ev.step (fun k => by rw [impl_natOf.l0]) ?_⟩
      simp only [if_neg (show ¬ (0 : Int) > 0 by omega)]
      exact Ev.now _

theorem implNatOf_eq {a : Int} (h0 : 0 ≤ a) (h1 : a ≤ 9223372036854775807) : ∃ r, r.length ≤ 4 ∧ Dg r ∧ Nm r ∧ val r = a ∧ Ev (fun k => impl_natOf.f k a) r := by
  obtain ⟨r, hr, d, n, v, e⟩ := implNatOf_loop 4 a [] (by omega) h0 h1 (by simp) Dg.nil (fun _ => by simp [Nm])
  exact ⟨r, by simpa using hr, d, n, by simpa [val] using v, e⟩

theorem ImplNatOf_eq {a : Int} (h0 : 0 ≤ a) (h1 : a ≤ 9223372036854775807) : ∃ r, r.length ≤ 4 ∧ Dg r ∧ Nm r ∧ val r = a ∧ Ev (fun k => impl_NatOf.f k a) (r, true) := by
  obtain ⟨r, hr, d, n, v, e⟩ := implNatOf_eq h0 h1
  refine ⟨r, hr, d, n, v, ?_⟩
  unfold impl_NatOf.f
  simp only [if_neg (show ¬ a < 0 by omega)]
  exact Ev.bind e (Ev.now _)

theorem and255 (x : Int) : 0 ≤ Go.bits .and .i64 x 255 ∧ Go.bits .and .i64 x 255 ≤ 255 := by
  unfold Go.bits
  simp only [BitVec.toNat_and]
  have h : (BitVec.ofInt IntKind.i64.bits 255).toNat = 255 := by decide
  rw [h]
  have h2 : (BitVec.ofInt IntKind.i64.bits x).toNat &&& 255 ≤ 255 := Nat.and_le_right
  generalize (BitVec.ofInt IntKind.i64.bits x).toNat &&& 255 = n at *
  rw [IntKind.wrap_i64]
  omega

/-- The cursor stands in its bytes. -/
def Cur (b : List Int) (i : Int) : Prop := 0 ≤ i ∧ i ≤ b.length ∧ b.length ≤ 1099511627776

theorem byte_some {b : List Int} {i : Int} (h : Int) (c : Cur b i) : ∃ v i' h', spec_l1Byte.f b i h = some (v, i', h') ∧ 0 ≤ v ∧ v ≤ 255 ∧ Cur b i' := by
  unfold spec_l1Byte.f
  obtain ⟨c0, c1, c2⟩ := c
  by_cases hi : i < (b.length : Int)
  · rw [if_pos hi, if_pos c0]
    refine ⟨_, _, _, rfl, (and255 _).1, (and255 _).2, ?_⟩
    rw [w64 (by omega) (by omega)]
    exact ⟨by omega, by omega, c2⟩
  · rw [if_neg hi]
    exact ⟨_, _, _, rfl, (and255 _).1, (and255 _).2, c0, c1, c2⟩

theorem below_some {b : List Int} {i : Int} (h : Int) (c : Cur b i) {n : Int} (hn : 0 < n) (hn' : n ≤ 4611686018427387904) : ∃ v i' h', spec_l1Below.f b i h n = some (v, i', h') ∧ 0 ≤ v ∧ v < n ∧ Cur b i' := by
  unfold spec_l1Below.f
  rw [if_neg (by omega)]
  by_cases h1 : n ≤ 256
  · rw [if_pos h1]
    obtain ⟨v, i', h', e, v0, v1, c'⟩ := byte_some h c
    rw [e]
    simp only [Option.bind_some, if_neg (show ¬ n = 0 by omega), Int.tmod_eq_emod_of_nonneg v0]
    exact ⟨_, _, _, rfl, Int.emod_nonneg _ (by omega), Int.emod_lt_of_pos _ hn, c'⟩
  · rw [if_neg h1]
    obtain ⟨v, i', h', e, v0, v1, c'⟩ := byte_some h c
    obtain ⟨w, j, g, f, w0, w1, d⟩ := byte_some h' c'
    obtain ⟨x, j', g', f', x0, x1, d'⟩ := byte_some g d
    obtain ⟨y, j2, g2, f2, y0, y1, d2⟩ := byte_some g' d'
    rw [e]
    simp only [Option.bind_some, f, f', f2, if_neg (show ¬ n = 0 by omega)]
    rw [w64 (n := v * 16777216) (by omega) (by omega), w64 (n := w * 65536) (by omega) (by omega), w64 (n := v * 16777216 + w * 65536) (by omega) (by omega), w64 (n := x * 256) (by omega) (by omega), w64 (n := v * 16777216 + w * 65536 + x * 256) (by omega) (by omega), w64 (by omega) (by omega), Int.tmod_eq_emod_of_nonneg (by omega)]
    exact ⟨_, _, _, rfl, Int.emod_nonneg _ (by omega), Int.emod_lt_of_pos _ hn, d2⟩

theorem new_loop (l : List Int) (hl : l.length ≤ 1099511627776) : ∀ (d : Nat) (h i : Int), 0 ≤ i → (l.length : Int) - i = d → ∃ h', Ev (fun k => spec_l1New.l0 k l h i) (l, 0, h') := by
  intro d
  induction d with
  | zero =>
    intro h i h0 hd
    refine ⟨h, Ev.step (fun k => by rw [spec_l1New.l0]) ?_⟩
    simp only [if_neg (show ¬ i < (l.length : Int) by omega)]
    exact Ev.now _
  | succ d ih =>
    intro h i h0 hd
    by_cases h1 : i < 4000
    · obtain ⟨h', e⟩ := ih (Go.bits .and .i64 (wrap64 ((wrap64 ((wrap64 (h * 131)) + (wrap64 (rd l i)))) + 7)) 1073741823) (i + 1) (by omega) (by omega)
      refine ⟨h', Ev.step (fun k => by rw [spec_l1New.l0]) ?_⟩
      simp only [if_pos (show i < (l.length : Int) by omega), if_pos h1, if_pos h0]
      rw [w64 (n := i + 1) (by omega) (by omega)]
      exact e
    · refine ⟨h, Ev.step (fun k => by rw [spec_l1New.l0]) ?_⟩
      simp only [if_pos (show i < (l.length : Int) by omega), if_neg h1]
      exact Ev.now _

theorem new_some (l : List Int) (hl : l.length ≤ 1099511627776) : ∃ h', Ev (fun k => spec_l1New.f k l) (l, 0, h') ∧ Cur l 0 := by
  obtain ⟨h', e⟩ := new_loop l hl l.length (wrap64 (148148 + (l.length : Int))) 0 (by omega) (by omega)
  exact ⟨h', e, by unfold Cur; omega⟩

theorem pick_some {b : List Int} {i : Int} (h : Int) (c : Cur b i) {l : List Int} (hl : 0 < l.length) (hl' : l.length ≤ 1000) : ∃ v i' h', spec_l1PickInt.f b i h l = some (v, i', h') ∧ v ∈ l ∧ Cur b i' := by
  unfold spec_l1PickInt.f
  obtain ⟨v, i', h', e, v0, v1, c'⟩ := below_some h c (n := (l.length : Int)) (by omega) (by omega)
  rw [e]
  simp only [Option.bind_some, if_pos v0, if_pos v1]
  refine ⟨_, _, _, rfl, ?_, c'⟩
  unfold rd
  rw [List.getD_eq_getElem?_getD, List.getElem?_eq_getElem (by omega), Option.getD_some]
  exact List.getElem_mem _

theorem once_some {b : List Int} {i : Int} (h : Int) (c : Cur b i) {n : Int} (hn : 0 < n) (hn' : n ≤ 1000) : ∃ v i' h', spec_l1Once.f b i h n = some (v, i', h') ∧ Cur b i' := by
  unfold spec_l1Once.f
  obtain ⟨v, i', h', e, v0, v1, c'⟩ := below_some h c hn (by omega)
  rw [e]
  exact ⟨_, _, _, rfl, c'⟩

theorem drawNat_loop (b : List Int) : ∀ (m : Nat) (n : Int) (x : List Int) (i h : Int), n.toNat ≤ m → n ≤ 1000 → x.length + n.toNat ≤ 1000 → Cur b i →
    ∃ l i' h', Ev (fun k => spec_l1DrawNat.l0 k x n b i h) (l, i', h') ∧ Cur b i' ∧ l.length ≤ x.length + n.toNat := by
  intro m
  induction m with
  | zero =>
    intro n x i h hn hn' hx c
    have := trim_len x
    refine ⟨trim x, i, h, Ev.step (fun k => by rw [spec_l1DrawNat.l0]) ?_, c, by omega⟩
    simp only [if_neg (show ¬ n > 0 by omega)]
    exact Ev.bind (norm_eq x (by omega)) (Ev.now _)
  | succ m ih =>
    intro n x i h hn hn' hx c
    by_cases h0 : n > 0
    · obtain ⟨v, i1, h1, e1, _, _, c1⟩ := below_some h c (n := 65536) (by omega) (by omega)
      obtain ⟨o, i2, h2, e2, c2⟩ := once_some h1 c1 (n := 6) (by omega) (by omega)
      cases o with
      | true =>
        obtain ⟨w, i3, h3, e3, _, c3⟩ := pick_some h2 c2 (l := [0, 1, 65535, 32768]) (by simp) (by simp)
        obtain ⟨l, i', h', e, c', hl⟩ := ih (n - 1) (x ++ [w]) i3 h3 (by omega) (by omega) (by simp; omega) c3
        refine ⟨l, i', h', Ev.step (fun k => by rw [spec_l1DrawNat.l0]) ?_, c', by simp at hl; omega⟩
        simp only [if_pos h0, e1, e2, e3, Option.bind_some, if_true, if_pos (show x.length < 17592186044416 by omega)]
        rw [w64 (by omega) (by omega)]
        exact e
      | false =>
        obtain ⟨l, i', h', e, c', hl⟩ := ih (n - 1) (x ++ [v]) i2 h2 (by omega) (by omega) (by simp; omega) c2
        refine ⟨l, i', h', Ev.step (fun k => by rw [spec_l1DrawNat.l0]) ?_, c', by simp at hl; omega⟩
        simp only [if_pos h0, e1, e2, Option.bind_some, Bool.false_eq_true, if_false, if_pos (show x.length < 17592186044416 by omega)]
        rw [w64 (by omega) (by omega)]
        exact e
    · exact ih n x i h (by omega) hn' hx c

theorem drawNat_some {b : List Int} {i : Int} (h : Int) (c : Cur b i) {n : Int} (hn : 0 < n) (hn' : n ≤ 500) : ∃ l i' h', Ev (fun k => spec_l1DrawNat.f k b i h n) (l, i', h') ∧ Cur b i' ∧ l.length < n := by
  obtain ⟨v, i1, h1, e1, v0, v1, c1⟩ := below_some h c hn (by omega)
  obtain ⟨l, i', h', e, c', hl⟩ := drawNat_loop b v.toNat v [] i1 h1 (Nat.le_refl _) (by omega) (by simp; omega) c1
  refine ⟨l, i', h', ?_, c', by simp at hl; omega⟩
  unfold spec_l1DrawNat.f
  simp only [e1, Option.bind_some]
  exact e

theorem drawAny_loop (b : List Int) : ∀ (m : Nat) (n : Int) (x : List Int) (i h : Int), n.toNat ≤ m → n ≤ 1000 → x.length + n.toNat ≤ 1000 →
    ∃ l, Ev (fun k => spec_l1DrawAny.l0 k x n b i h) (l, i, h) ∧ l.length ≤ x.length + n.toNat := by
  intro m
  induction m with
  | zero =>
    intro n x i h hn hn' hx
    refine ⟨x, Ev.step (fun k => by rw [spec_l1DrawAny.l0]) ?_, by omega⟩
    simp only [if_neg (show ¬ n > 0 by omega)]
    exact Ev.now _
  | succ m ih =>
    intro n x i h hn hn' hx
    by_cases h0 : n > 0
    · obtain ⟨l, e, hl⟩ := ih (n - 1) (x ++ [65535]) i h (by omega) (by omega) (by simp; omega)
      refine ⟨l, Ev.step (fun k => by rw [spec_l1DrawAny.l0]) ?_, by simp at hl; omega⟩
      simp only [if_pos h0, if_pos (show x.length < 17592186044416 by omega)]
      rw [w64 (by omega) (by omega)]
      exact e
    · exact ih n x i h (by omega) hn' hx

theorem drawAny_some {b : List Int} {i : Int} (h : Int) (c : Cur b i) : ∃ l i' h', Ev (fun k => spec_l1DrawAny.f k b i h) (l, i', h') ∧ Cur b i' ∧ l.length ≤ 66 := by
  obtain ⟨a, i1, h1, e1, c1, hl⟩ := drawNat_some h c (n := 7) (by omega) (by omega)
  obtain ⟨v, i2, h2, e2, v0, v1, c2⟩ := below_some h1 c1 (n := 30) (by omega) (by omega)
  by_cases p0 : v = 0
  · obtain ⟨w, i3, h3, e3, _, c3⟩ := pick_some h2 c2 (l := [0, (-1), 65536, 1]) (by simp) (by simp)
    refine ⟨a ++ [w], i3, h3, ?_, c3, by simp; omega⟩
    unfold spec_l1DrawAny.f
    refine Ev.bind e1 ?_
    simp only [e2, e3, Option.bind_some, if_pos p0, if_pos (show a.length < 17592186044416 by omega)]
    exact Ev.now _
  · by_cases p1 : v = 1
    · obtain ⟨x, i3, h3, e3, x0, x1, c3⟩ := below_some h2 c2 (n := 2) (by omega) (by omega)
      obtain ⟨y, i4, h4, e4, y0, y1, c4⟩ := below_some h3 c3 (n := 2) (by omega) (by omega)
      obtain ⟨l, e, hl'⟩ := drawAny_loop b (64 - x + y).toNat (64 - x + y) [] i4 h4 (Nat.le_refl _) (by omega) (by simp; omega)
      refine ⟨l, i4, h4, ?_, c4, by simp at hl'; omega⟩
      unfold spec_l1DrawAny.f
      refine Ev.bind e1 ?_
      simp only [e2, e3, e4, Option.bind_some, if_neg p0, if_pos p1]
      rw [w64 (n := 64 - x) (by omega) (by omega), w64 (by omega) (by omega)]
      exact e
    · refine ⟨a, i2, h2, ?_, c2, by omega⟩
      unfold spec_l1DrawAny.f
      refine Ev.bind e1 ?_
      simp only [e2, Option.bind_some, if_neg p0, if_neg p1]
      exact Ev.now _

/-- What an answer that has at most 64 digits says of its worth. -/
def Fits (r : List Int) (b : Bool) (v : Int) : Prop := (b = true ∧ natOk r = true ∧ val r = v) ∨ (b = false ∧ r = [] ∧ 65536 ^ 64 ≤ v)

theorem limited_fits {r : List Int} (d : Dg r) (n : Nm r) : ∃ q b, impl_limited.f r = some (q, b) ∧ Fits q b (val r) := by
  unfold impl_limited.f
  by_cases hl : (r.length : Int) > 64
  · rw [if_pos hl]
    have h1 := val_ge d n (by intro h; subst h; simp at hl)
    have h2 : (65536 : Int) ^ 64 ≤ 65536 ^ (r.length - 1) := pow_mono (by omega)
    exact ⟨[], false, rfl, .inr ⟨rfl, rfl, by omega⟩⟩
  · rw [if_neg hl]
    exact ⟨r, true, rfl, .inl ⟨rfl, (natOk_iff r).2 ⟨by omega, d, n⟩, rfl⟩⟩

theorem NatAdd_ok {a b : List Int} (ka : natOk a = true) (kb : natOk b = true) : ∃ r q, Ev (fun k => impl_NatAdd.f k a b) (r, q) ∧ Fits r q (val a + val b) := by
  obtain ⟨la, da, na⟩ := (natOk_iff a).1 ka
  obtain ⟨lb, db, nb⟩ := (natOk_iff b).1 kb
  obtain ⟨r, v, d, n, _, _, e⟩ := implAdd_eq da db (by omega) (by omega)
  obtain ⟨q, t, f, hq⟩ := limited_fits d n
  refine ⟨q, t, ?_, by rw [v] at hq; exact hq⟩
  unfold impl_NatAdd.f
  refine Ev.bind (arOf (by omega) (by omega)) ?_
  simp only [List.all_cons, List.all_nil, ka, kb, Bool.and_true, if_true]
  refine Ev.bind e ?_
  simp only [f, Option.bind_some]
  exact Ev.now _

theorem NatMul_ok {a b : List Int} (ka : natOk a = true) (kb : natOk b = true) : ∃ r q, Ev (fun k => impl_NatMul.f k a b) (r, q) ∧ Fits r q (val a * val b) := by
  obtain ⟨la, da, na⟩ := (natOk_iff a).1 ka
  obtain ⟨lb, db, nb⟩ := (natOk_iff b).1 kb
  obtain ⟨r, v, d, n, _, e⟩ := implMul_eq da db (by omega) (by omega)
  obtain ⟨q, t, f, hq⟩ := limited_fits d n
  refine ⟨q, t, ?_, by rw [v] at hq; exact hq⟩
  unfold impl_NatMul.f
  refine Ev.bind (arOf (by omega) (by omega)) ?_
  simp only [List.all_cons, List.all_nil, ka, kb, Bool.and_true, if_true]
  refine Ev.bind e ?_
  simp only [f, Option.bind_some]
  exact Ev.now _

theorem NatCompare_ok {a b : List Int} (ka : natOk a = true) (kb : natOk b = true) : Ev (fun k => impl_NatCompare.f k a b) (cmpI (val a) (val b)) := by
  obtain ⟨la, da, na⟩ := (natOk_iff a).1 ka
  obtain ⟨lb, db, nb⟩ := (natOk_iff b).1 kb
  unfold impl_NatCompare.f
  refine Ev.bind (arOf (by omega) (by omega)) ?_
  simp only [List.all_cons, List.all_nil, ka, kb, Bool.and_true, if_true]
  exact Ev.bind (implCompare_eq da db na nb (by omega) (by omega)) (Ev.now _)

theorem Fits.same {r q : List Int} {v : Int} (h : Fits r true v) (k : natOk q = true) (hv : val q = v) : r = q := by
  rcases h with ⟨_, h1, h2⟩ | ⟨h1, _⟩
  · obtain ⟨_, d, n⟩ := (natOk_iff r).1 h1
    obtain ⟨_, d', n'⟩ := (natOk_iff q).1 k
    exact val_inj d d' n n' (by omega)
  · cases h1

theorem Fits.ok {r : List Int} {v : Int} (h : Fits r true v) : natOk r = true ∧ val r = v := by
  rcases h with ⟨_, h1, h2⟩ | ⟨h1, _⟩
  · exact ⟨h1, h2⟩
  · cases h1

theorem Fits.no {r : List Int} {v : Int} (h : Fits r false v) : 65536 ^ 64 ≤ v := by
  rcases h with ⟨h1, _⟩ | ⟨_, _, h2⟩
  · cases h1
  · exact h2

theorem natOk_lt {r : List Int} (h : natOk r = true) : 0 ≤ val r ∧ val r < 65536 ^ r.length ∧ r.length ≤ 64 := by
  obtain ⟨l, d, n⟩ := (natOk_iff r).1 h
  exact ⟨val_nonneg d, val_lt d, l⟩

theorem NatSub_ok {a b : List Int} (ka : natOk a = true) (kb : natOk b = true) (h : val b ≤ val a) : ∃ r, natOk r = true ∧ val r = val a - val b ∧ Ev (fun k => impl_NatSub.f k a b) (r, true) := by
  obtain ⟨la, da, na⟩ := (natOk_iff a).1 ka
  obtain ⟨lb, db, nb⟩ := (natOk_iff b).1 kb
  obtain ⟨r, v, d, n, l, e⟩ := implSub_eq da db nb h (by omega)
  refine ⟨r, (natOk_iff r).2 ⟨by omega, d, n⟩, v, ?_⟩
  unfold impl_NatSub.f
  refine Ev.bind (arOf (by omega) (by omega)) ?_
  simp only [List.all_cons, List.all_nil, ka, kb, Bool.and_true, if_true]
  refine Ev.bind (implCompare_eq da db na nb (by omega) (by omega)) ?_
  have : ¬ cmpI (val a) (val b) < 0 := by unfold cmpI; rw [if_neg (by omega)]; split <;> decide
  simp only [if_neg this]
  exact Ev.bind e (Ev.now _)

theorem draws (l : List Int) (hl : l.length ≤ 1048576) : ∃ a b, a.length ≤ 66 ∧ b.length ≤ 66 ∧ Ev (fun k => spec_DrawNatMul.f k l) (a, b) := by
  obtain ⟨h, e, c⟩ := new_some l (by omega)
  obtain ⟨a, i1, h1, e1, c1, l1⟩ := drawAny_some h c
  obtain ⟨b, i2, h2, e2, c2, l2⟩ := drawAny_some h1 c1
  refine ⟨a, b, l1, l2, ?_⟩
  unfold spec_DrawNatMul.f
  exact Ev.bind e (Ev.bind e1 (Ev.bind e2 (Ev.now _)))

theorem prod_len {a c : List Int} (ka : natOk a = true) (kc : natOk c = true) (h : 65536 ^ 64 ≤ val a * val c) : 64 < a.length + c.length := by
  obtain ⟨a0, a1, _⟩ := natOk_lt ka
  obtain ⟨c0, c1, _⟩ := natOk_lt kc
  rcases Nat.lt_or_ge 64 (a.length + c.length) with h1 | h1
  · exact h1
  · exfalso
    have h2 : (65536 : Int) ^ (a.length + c.length) ≤ 65536 ^ 64 := pow_mono h1
    rw [Int.pow_add] at h2
    have p1 := pow_pos' a.length
    have p2 := pow_pos' c.length
    have h3 : val a * val c < 65536 ^ a.length * 65536 ^ c.length := by
      by_cases hz : val c = 0
      · rw [hz, Int.mul_zero]; exact Int.mul_pos p1 p2
      · have q1 : val a * val c < 65536 ^ a.length * val c := Int.mul_lt_mul_of_pos_right a1 (by omega)
        have q2 : 65536 ^ a.length * val c ≤ 65536 ^ a.length * 65536 ^ c.length := Int.mul_le_mul_of_nonneg_left (by omega) (by omega)
        omega
    omega

theorem goodWay (l a b : List Int) (hw : ∀ x ∈ l, 0 ≤ x ∧ x ≤ 255) (hl : l.length ≤ 1048576) (ka : natOk a = true) (kb : natOk b = true) : Ev (fun k => laws_FnSums.j0 k l a b false) true := by
  obtain ⟨u, e0, u0, u1⟩ := at_some hw hl (i := 0) (by omega) (by omega)
  obtain ⟨v, e1, v0, v1⟩ := at_some hw hl (i := 1) (by omega) (by omega)
  obtain ⟨w, e2, w0, w1⟩ := at_some hw hl (i := 2) (by omega) (by omega)
  have m1 : 0 ≤ u * v := Int.mul_nonneg u0 v0
  have m2 : u * v ≤ 255 * 255 := Int.mul_le_mul u1 v1 v0 (by omega)
  have m3 : 0 ≤ u * v * w := Int.mul_nonneg m1 w0
  have m4 : u * v * w ≤ 255 * 255 * 255 := Int.mul_le_mul m2 w1 w0 (by omega)
  have ew : wrap64 (wrap64 (wrap64 (u * v) * w) + 5) = u * v * w + 5 := by
    rw [w64 (n := u * v) (by omega) (by omega), w64 (n := u * v * w) (by omega) (by omega), w64 (by omega) (by omega)]
  obtain ⟨c, lc, dc, nc, vc, ec⟩ := ImplNatOf_eq (a := u * v * w + 5) (by omega) (by omega)
  have kc : natOk c = true := (natOk_iff c).2 ⟨by omega, dc, nc⟩
  obtain ⟨s, qs, es, fs⟩ := NatAdd_ok ka kb
  obtain ⟨a0, a1, al⟩ := natOk_lt ka
  obtain ⟨b0, b1, bl⟩ := natOk_lt kb
  refine Ev.step (fun k => by rw [laws_FnSums.j0]) ?_
  simp only [Bool.false_eq_true, if_false, e0, e1, e2, Option.bind_some, ew]
  clear ew
  refine Ev.bind ec (Ev.bind es ?_)
  cases qs with
  | false =>
    simp only [Bool.false_eq_true, if_false]
    have hb := fs.no
    by_cases h64 : a.length = 64
    · simp only [if_pos (show (a.length : Int) = 64 by omega)]
      exact Ev.now _
    · have h64' : b.length = 64 := by
        rcases Nat.lt_or_ge b.length 64 with h | h
        · exfalso
          have p1 : (65536 : Int) ^ a.length ≤ 65536 ^ 63 := pow_mono (by omega)
          have p2 : (65536 : Int) ^ b.length ≤ 65536 ^ 63 := pow_mono (by omega)
          have p3 : (65536 : Int) ^ 64 = 65536 ^ 63 * 65536 := Int.pow_succ _ _
          have p4 := pow_pos' 63
          omega
        · omega
      simp only [if_neg (show ¬ (a.length : Int) = 64 by omega), h64']
      exact Ev.now _
  | true =>
    obtain ⟨ks, vs⟩ := fs.ok
    obtain ⟨s0, s1, sl⟩ := natOk_lt ks
    simp only [if_true]
    obtain ⟨t, qt, et, ft⟩ := NatAdd_ok kb ka
    have hqt : qt = true := by
      cases qt with
      | true => rfl
      | false =>
        have := ft.no
        have p : (65536 : Int) ^ s.length ≤ 65536 ^ 64 := pow_mono sl
        omega
    subst hqt
    obtain rfl : t = s := ft.same ks (by omega)
    obtain ⟨d, kd, vd, ed⟩ := NatSub_ok ks kb (by omega)
    obtain rfl : d = a := by
      obtain ⟨_, x1, x2⟩ := (natOk_iff d).1 kd
      obtain ⟨_, y1, y2⟩ := (natOk_iff a).1 ka
      exact val_inj x1 y1 x2 y2 (by omega)
    obtain ⟨p, qp, ep, fp⟩ := NatMul_ok kd kc
    obtain ⟨q, qq, eq, fq⟩ := NatMul_ok kb kc
    obtain ⟨r, qr, er, fr⟩ := NatMul_ok ks kc
    have lens : ∀ x : List Int, natOk x = true → x.length ≤ 1099511627776 := fun x hx => by have := (natOk_lt hx).2.2; omega
    refine Ev.bind et (Ev.bind ed (Ev.bind ep (Ev.bind eq (Ev.bind er ?_))))
    simp only [if_true]
    refine Ev.bind (sameInts_eq d (lens d kd)) ?_
    simp only [if_true]
    refine Ev.bind (sameInts_eq t (lens t ks)) ?_
    simp only [if_true]
    refine Ev.bind (NatCompare_ok ks kd) ?_
    have hc : decide (cmpI (val t) (val d) < 0) = false := by
      unfold cmpI
      rw [if_neg (by omega)]
      split <;> decide
    rw [hc]
    refine Ev.step (fun k => by rw [laws_FnSums.j1]) ?_
    simp only [Bool.false_eq_true, if_false]
    have len_le : ∀ x : List Int, natOk x = true → val x ≤ val t → x.length ≤ t.length := fun x hx hv => by
      obtain ⟨_, x1, x2⟩ := (natOk_iff x).1 hx
      obtain ⟨_, y1, y2⟩ := (natOk_iff t).1 ks
      exact len_le_of_val y1 x1 x2 hv
    have bad : 64 < t.length + c.length → Ev (fun k => laws_FnSums.j2 k c t p q r true) true := by
      intro hlt
      refine Ev.step (fun k => by rw [laws_FnSums.j2]) ?_
      simp only [if_true]
      rw [w64 (by omega) (by omega)]
      have : decide ((t.length : Int) + c.length > 64) = true := by simpa using (by omega : (t.length : Int) + c.length > 64)
      rw [this]
      exact Ev.now _
    have l1 := len_le d kd (by omega)
    have l2 := len_le b kb (by omega)
    cases qp with
    | false =>
      have := prod_len kd kc fp.no
      simpa using bad (by omega)
    | true =>
      cases qq with
      | false =>
        have := prod_len kb kc fq.no
        simpa using bad (by omega)
      | true =>
        cases qr with
        | false =>
          have := prod_len ks kc fr.no
          simpa using bad (by omega)
        | true =>
          obtain ⟨kp, vp⟩ := fp.ok
          obtain ⟨kq, vq⟩ := fq.ok
          obtain ⟨kr, vr⟩ := fr.ok
          obtain ⟨r0, r1, rl⟩ := natOk_lt kr
          obtain ⟨x, qx, ex, fx⟩ := NatAdd_ok kp kq
          have hv : val p + val q = val r := by rw [vp, vq, vr, vs, Int.add_mul]
          have hqx : qx = true := by
            cases qx with
            | true => rfl
            | false =>
              have := fx.no
              have p : (65536 : Int) ^ r.length ≤ 65536 ^ 64 := pow_mono rl
              omega
          subst hqx
          obtain rfl : x = r := fx.same kr (by omega)
          simp only [if_true, Bool.not_true]
          refine Ev.step (fun k => by rw [laws_FnSums.j2]) ?_
          simp only [Bool.false_eq_true, if_false]
          refine Ev.bind ex ?_
          simp only [if_true]
          exact Ev.bind (sameInts_eq x (lens x kr)) (Ev.now _)

theorem badWay (l a b : List Int) (hab : ¬ (natOk a = true ∧ natOk b = true)) (ha : a.length ≤ 66) (hb : b.length ≤ 66) : Ev (fun k => laws_FnSums.j0 k l a b true) true := by
  have ar := arOf (a := a) (b := b) (by omega) (by omega)
  rw [ok2 hab] at ar
  have oi := implNatOk_eq a (by omega)
  have os := specNatOk_eq a (by omega)
  refine Ev.step (fun k => by rw [laws_FnSums.j0]) ?_
  simp only [if_true]
  refine Ev.bind (a := ([], false)) ?_ ?_
  · unfold impl_NatAdd.f
    refine Ev.bind ar ?_
    simpa using Ev.now (([] : List Int), false)
  simp only [Bool.false_eq_true, if_false]
  refine Ev.bind oi (Ev.bind os ?_)
  simp only [beq_self_eq_true, if_true]
  refine Ev.bind (a := -2) ?_ ?_
  · unfold impl_NatCompare.f
    refine Ev.bind ar ?_
    simpa using Ev.now (-2 : Int)
  exact Ev.now _

theorem FnSums : laws_FnSums.Pure := by
  intro l _ _ hw
  have hw := wfu8 hw
  refine Ev.rounds (r := true) ?_
  unfold laws_FnSums.f laws_big.f
  simp only [Option.bind_some]
  by_cases h : (l.length : Int) > 1048576
  · simp only [h, decide_true, if_true]; exact Ev.now _
  simp only [h, decide_false, Bool.false_eq_true, if_false]
  obtain ⟨a, b, la, lb, e⟩ := draws l (by omega)
  refine Ev.bind e ?_
  refine Ev.bind (specNatOk_eq a (by omega)) ?_
  cases ka : natOk a with
  | false =>
    simp only [Bool.false_eq_true, if_false]
    exact badWay l a b (by simp [ka]) la lb
  | true =>
    simp only [if_true]
    refine Ev.bind (specNatOk_eq b (by omega)) ?_
    cases kb : natOk b with
    | false => exact badWay l a b (by simp [kb]) la lb
    | true => exact goodWay l a b hw (by omega) ka kb

end Go.Proofs.Ytohplbcbkggjaac.Pure
