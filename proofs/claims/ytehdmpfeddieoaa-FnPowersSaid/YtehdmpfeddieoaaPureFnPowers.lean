/- The law FnPowers answers true at all bytes: powers add up, an inverse is one, and the greatest common divisor divides both. -/
import Derived.Test.YtehdmpfeddieoaaPFnPowersx9
import Derived.Test.YtehdmpfeddieoaaMDig
import Derived.Test.YtehdmpfeddieoaaMBits
import Derived.Test.YtehdmpfeddieoaaMDiv
import Derived.Test.YtehdmpfeddieoaaMInv
import Derived.Test.YtehdmpfeddieoaaMModInv
namespace Go.Proofs.Ytehdmpfeddieoaa.Pure
open Go.RowKit Go.Proofs.Ytehdmpfeddieoaa.PFnPowers Go.Proofs.YtehdmpfeddieoaaW.PrintWords Go.Proofs.YtehdmpfeddieoaaW.PrintLast Go.Proofs.Ytehdmpfeddieoaa.Plain

set_option linter.unusedVariables false
set_option linter.unusedSimpArgs false

theorem w64 {n : Int} (h : -9223372036854775808 ≤ n) (h' : n ≤ 9223372036854775807) : wrap64 n = n := by
  unfold wrap64
  omega

theorem wf64 {n : Int} (h : (Lit.int .i64 n).wf = true) : -9223372036854775808 ≤ n ∧ n ≤ 9223372036854775807 := by
  simpa [Lit.wf, IntKind.min, IntKind.max, IntKind.signed, IntKind.bits] using h

theorem wsucc {i : Nat} (h : i ≤ 1099511627776) : wrap64 ((i : Int) + 1) = ((i + 1 : Nat) : Int) := by
  rw [w64 (by omega) (by omega)]
  omega

theorem wpred {i : Nat} (h : i ≤ 1099511627776) : wrap64 (((i + 1 : Nat) : Int) - 1) = (i : Int) := by
  rw [w64 (by omega) (by omega)]
  omega

theorem in_eq (n a b : Int) : spec_l1In.f n a b = some (decide (a ≤ n ∧ n ≤ b)) := by
  unfold spec_l1In.f
  by_cases h : n ≥ a
  · rw [if_pos h]
    have : a ≤ n := h
    simp [this]
  · rw [if_neg h]
    have : ¬ a ≤ n := h
    simp [this]

theorem within_eq (n a b : Int) : impl_within.f n a b = some (decide (a ≤ n ∧ n ≤ b)) := by
  unfold impl_within.f
  by_cases h : n ≥ a
  · rw [if_pos h]
    have : a ≤ n := h
    simp [this]
  · rw [if_neg h]
    have : ¬ a ≤ n := h
    simp [this]

theorem specNatOk_loop (l : List Int) (hl : l.length ≤ 1099511627776) : ∀ (d : Nat) (i : Int), 0 ≤ i → (l.length : Int) - i = d →
    Ev (fun k => spec_NatOk.l0 k l i) ((l.drop i.toNat).all (fun d => decide (0 ≤ d ∧ d ≤ 65535)) && decide (l.length ≤ 64) && (l.isEmpty || (l.getD (l.length - 1) 0 != 0))) := by
  intro d
  induction d with
  | zero =>
    intro i h0 hd
    refine Ev.step (fun k => by rw [spec_NatOk.l0]) ?_
    simp only [if_neg (show ¬ i < (l.length : Int) by omega)]
    rw [List.drop_eq_nil_of_le (by omega)]
    by_cases h1 : (l.length : Int) ≤ 64
    · simp only [if_pos h1, show l.length ≤ 64 by omega]
      by_cases h2 : (l.length : Int) = 0
      · obtain rfl : l = [] := List.length_eq_zero_iff.1 (by omega)
        simpa using Ev.now true
      · have e : wrap64 ((l.length : Int) - 1) = (l.length : Int) - 1 := w64 (by omega) (by omega)
        have hne : l.isEmpty = false := by cases l with | nil => simp at h2 | cons a l => rfl
        simp only [if_neg h2, e, if_pos (show 0 ≤ (l.length : Int) - 1 by omega), if_pos (show (l.length : Int) - 1 < l.length by omega), hne, rd, show ((l.length : Int) - 1).toNat = l.length - 1 by omega]
        simpa using Ev.now _
    · simp only [if_neg h1, show ¬ l.length ≤ 64 by omega]
      simpa using Ev.now false
  | succ d ih =>
    intro i h0 hd
    refine Ev.step (fun k => by rw [spec_NatOk.l0]) ?_
    have hi : i.toNat < l.length := by omega
    rw [List.drop_eq_getElem_cons hi, List.all_cons]
    have hr : rd l i = l[i.toNat] := by simp [rd, List.getD_eq_getElem?_getD, List.getElem?_eq_getElem hi]
    simp only [if_pos (show i < (l.length : Int) by omega), if_pos h0, in_eq, hr, Option.bind_some]
    by_cases h1 : 0 ≤ l[i.toNat] ∧ l[i.toNat] ≤ 65535
    · simp only [h1.1, h1.2, and_self, decide_true, if_true, Bool.true_and]
      rw [w64 (by omega) (by omega)]
      have := ih (i + 1) (by omega) (by omega)
      rwa [show (i + 1).toNat = i.toNat + 1 by omega] at this
    · simp only [h1, decide_false, Bool.false_and]
      simpa using Ev.now false

theorem specNatOk_eq (l : List Int) (hl : l.length ≤ 1099511627776) : Ev (fun k => spec_NatOk.f k l) (natOk l) := by
  unfold spec_NatOk.f natOk
  have := specNatOk_loop l hl l.length 0 (by omega) (by omega)
  rw [Int.toNat_zero, List.drop_zero] at this
  rwa [Bool.and_comm (decide (l.length ≤ 64))]

theorem allWithin_loop (l : List Int) (a b : Int) (hl : l.length ≤ 1099511627776) : ∀ (d : Nat) (i : Int), 0 ≤ i → (l.length : Int) - i = d →
    Ev (fun k => impl_allWithin.l0 k a b l (l.length : Int) i) ((l.drop i.toNat).all (fun d => decide (a ≤ d ∧ d ≤ b))) := by
  intro d
  induction d with
  | zero =>
    intro i h0 hd
    refine Ev.step (fun k => by rw [impl_allWithin.l0]) ?_
    simp only [if_neg (show ¬ i < (l.length : Int) by omega)]
    rw [List.drop_eq_nil_of_le (by omega)]
    exact Ev.now _
  | succ d ih =>
    intro i h0 hd
    refine Ev.step (fun k => by rw [impl_allWithin.l0]) ?_
    have hi : i.toNat < l.length := by omega
    rw [List.drop_eq_getElem_cons hi, List.all_cons]
    have hr : rd l i = l[i.toNat] := by simp [rd, List.getD_eq_getElem?_getD, List.getElem?_eq_getElem hi]
    simp only [if_pos (show i < (l.length : Int) by omega), if_pos h0, within_eq, hr, Option.bind_some]
    by_cases h1 : a ≤ l[i.toNat] ∧ l[i.toNat] ≤ b
    · simp only [h1.1, h1.2, and_self, decide_true, if_true, Bool.true_and]
      rw [w64 (by omega) (by omega)]
      have := ih (i + 1) (by omega) (by omega)
      rwa [show (i + 1).toNat = i.toNat + 1 by omega] at this
    · simp only [h1, decide_false, Bool.false_and]
      simpa using Ev.now false

theorem allWithin_eq (l : List Int) (a b : Int) (hl : l.length ≤ 1099511627776) : Ev (fun k => impl_allWithin.f k l a b) (l.all (fun d => decide (a ≤ d ∧ d ≤ b))) := by
  unfold impl_allWithin.f
  have := allWithin_loop l a b hl l.length 0 (by omega) (by omega)
  rwa [Int.toNat_zero, List.drop_zero] at this

theorem implNatOk_eq (l : List Int) (hl : l.length ≤ 1099511627776) : Ev (fun k => impl_NatOk.f k l) (natOk l) := by
  unfold impl_NatOk.f natOk
  by_cases h1 : (l.length : Int) ≤ 64
  · simp only [if_pos h1, show l.length ≤ 64 by omega, decide_true, Bool.true_and]
    refine Ev.bind (allWithin_eq l 0 65535 hl) ?_
    by_cases h3 : l.all (fun d => decide (0 ≤ d ∧ d ≤ 65535)) = true
    · simp only [h3, if_true, Bool.true_and]
      by_cases h2 : (l.length : Int) = 0
      · obtain rfl : l = [] := List.length_eq_zero_iff.1 (by omega)
        simpa using Ev.now true
      · have e : wrap64 ((l.length : Int) - 1) = (l.length : Int) - 1 := w64 (by omega) (by omega)
        have hne : l.isEmpty = false := by cases l with | nil => simp at h2 | cons a l => rfl
        simp only [if_neg h2, e, if_pos (show 0 ≤ (l.length : Int) - 1 by omega), if_pos (show (l.length : Int) - 1 < l.length by omega), hne, rd, show ((l.length : Int) - 1).toNat = l.length - 1 by omega]
        simpa using Ev.now _
    · simp only [h3, Bool.false_and]
      simpa using Ev.now false
  · simp only [if_neg h1, show ¬ l.length ≤ 64 by omega]
    simpa using Ev.now false

theorem cmpCompare_eq (x y : Int) : cmp_Compare_int.f x y = some (cmpI x y) := by
  unfold cmp_Compare_int.f cmp_isNaN_int.f cmpI
  simp only [bne_self_eq_false, Option.bind_some, Bool.false_eq_true, if_false]
  split
  · rfl
  · split <;> rfl

theorem implCompare_loop {a b : List Int} (ha : Dg a) (hb : Dg b) (hl : a.length = b.length) (hn : a.length ≤ 1048576) : ∀ (n : Nat) (i : Int), i = (n : Int) - 1 → n ≤ a.length →
    Ev (fun k => impl_natCompare.l0 k a b i) (cmpI (val (a.take n)) (val (b.take n))) := by
  intro n
  induction n with
  | zero =>
    intro i hi hn
    refine Ev.step (fun k => by rw [impl_natCompare.l0]) ?_
    simp only [if_neg (show ¬ i ≥ 0 by omega)]
    simpa [cmpI, val] using Ev.now (0 : Int)
  | succ n ih =>
    intro i hi hn'
    refine Ev.step (fun k => by rw [impl_natCompare.l0]) ?_
    have hr : i.toNat = n := by omega
    rw [cmp_take ha hb (by omega) (by omega)]
    simp only [if_pos (show i ≥ 0 by omega), if_pos (show 0 ≤ i by omega), if_pos (show i < (a.length : Int) by omega), if_pos (show i < (b.length : Int) by omega), rd, hr, cmpCompare_eq, Option.bind_some]
    by_cases h0 : a.getD n 0 = b.getD n 0
    · simp only [if_pos h0, if_neg (show ¬ a.getD n 0 < b.getD n 0 by omega), if_neg (show ¬ a.getD n 0 > b.getD n 0 by omega)]
      rw [w64 (by omega) (by omega)]
      exact ih (i - 1) (by omega) (by omega)
    · simp only [if_neg h0]
      have : (if a.getD n 0 < b.getD n 0 then (-1 : Int) else if a.getD n 0 > b.getD n 0 then 1 else cmpI (val (a.take n)) (val (b.take n))) = cmpI (a.getD n 0) (b.getD n 0) := by
        unfold cmpI
        split
        · rfl
        · split
          · rfl
          · omega
      rw [this]
      exact Ev.now _

theorem implCompare_eq {a b : List Int} (ha : Dg a) (hb : Dg b) (na : Nm a) (nb : Nm b) (hn : a.length ≤ 1048576) (hn' : b.length ≤ 1048576) : Ev (fun k => impl_natCompare.f k a b) (cmpI (val a) (val b)) := by
  unfold impl_natCompare.f
  by_cases h : a.length = b.length
  · simp only [if_pos (show (a.length : Int) = b.length by omega)]
    rw [w64 (by omega) (by omega)]
    have := implCompare_loop ha hb h hn a.length ((a.length : Int) - 1) rfl (Nat.le_refl _)
    rwa [List.take_length, h, List.take_length, ← h] at this
  · simp only [if_neg (show ¬ (a.length : Int) = b.length by omega), cmpCompare_eq, Option.bind_some]
    rw [cmp_len ha hb na nb h]
    have : cmpI (a.length : Int) (b.length : Int) = if a.length < b.length then -1 else 1 := by
      unfold cmpI
      by_cases h1 : a.length < b.length
      · rw [if_pos (by omega), if_pos h1]
      · rw [if_neg (by omega), if_pos (by omega), if_neg h1]
    rw [this]
    exact Ev.now _

theorem indexFunc_loop (ls : List (List Int)) (hl : ls.length ≤ 1048576) (hs : ∀ l ∈ ls, l.length ≤ 1099511627776) : ∀ (d : Nat) (i : Int), 0 ≤ i → (ls.length : Int) - i = d →
    ∃ r, Ev (fun k => slices_IndexFunc_int_int.l0 k ls (ls.length : Int) i) r ∧ (0 ≤ r ↔ (ls.drop i.toNat).all natOk = false) := by
  intro d
  induction d with
  | zero =>
    intro i h0 hd
    refine ⟨-1, Ev.step (fun k => by rw [slices_IndexFunc_int_int.l0]) ?_, ?_⟩
    · simp only [if_neg (show ¬ i < (ls.length : Int) by omega)]
      exact Ev.now _
    · rw [List.drop_eq_nil_of_le (by omega)]
      simp
  | succ d ih =>
    intro i h0 hd
    have hi : i.toNat < ls.length := by omega
    have hr : rd_L1 ls i = ls[i.toNat] := by
      simp [rd_L1, List.getD_eq_getElem?_getD, List.getElem?_eq_getElem hi]
    rw [List.drop_eq_getElem_cons hi, List.all_cons]
    have hk := implNatOk_eq ls[i.toNat] (hs _ (List.getElem_mem hi))
    have hc : Ev (fun k => impl_areNats_1.f k ls[i.toNat]) (!natOk ls[i.toNat]) := by
      unfold impl_areNats_1.f
      exact Ev.bind hk (Ev.now _)
    cases hb : natOk ls[i.toNat] with
    | false =>
      rw [hb] at hc
      refine ⟨i, Ev.step (fun k => by rw [slices_IndexFunc_int_int.l0]) ?_, by simp [h0]⟩
      simp only [if_pos (show i < (ls.length : Int) by omega), if_pos h0, hr]
      refine Ev.bind hc ?_
      simpa using Ev.now i
    | true =>
      rw [hb] at hc
      obtain ⟨r, hr', he⟩ := ih (i + 1) (by omega) (by omega)
      refine ⟨r, Ev.step (fun k => by rw [slices_IndexFunc_int_int.l0]) ?_, ?_⟩
      · simp only [if_pos (show i < (ls.length : Int) by omega), if_pos h0, hr]
        refine Ev.bind hc ?_
        rw [w64 (n := i + 1) (by omega) (by omega)]
        simpa using hr'
      · rw [he, show (i + 1).toNat = i.toNat + 1 by omega]
        simp

theorem areNats_eq (ls : List (List Int)) (hl : ls.length ≤ 1048576) (hs : ∀ l ∈ ls, l.length ≤ 1099511627776) : Ev (fun k => impl_areNats.f k ls) (ls.all natOk) := by
  obtain ⟨r, hr, he⟩ := indexFunc_loop ls hl hs ls.length 0 (by omega) (by omega)
  unfold impl_areNats.f slices_ContainsFunc_int_int.f slices_IndexFunc_int_int.f
  refine Ev.bind (Ev.bind hr (Ev.now _)) ?_
  have : (!decide (r ≥ 0)) = ls.all natOk := by
    rw [Int.toNat_zero, List.drop_zero] at he
    cases hb : ls.all natOk with
    | true => rw [hb] at he; simp at he; simp; omega
    | false => rw [hb] at he; simp at he; simp; omega
  rw [this]
  exact Ev.now _

theorem ok2 {a b : List Int} (k : ¬ (natOk a = true ∧ natOk b = true)) : [a, b].all natOk = false := by
  simp only [List.all_cons, List.all_nil, Bool.and_true]
  cases ka : natOk a with
  | false => rfl
  | true =>
    cases kb : natOk b with
    | true => exact absurd ⟨ka, kb⟩ k
    | false => rfl

theorem arOf {a b : List Int} (h1 : a.length ≤ 1048576) (h2 : b.length ≤ 1048576) : Ev (fun k => impl_areNats.f k [a, b]) ([a, b].all natOk) :=
  areNats_eq [a, b] (by simp) (by intro l hl; simp at hl; rcases hl with rfl | rfl <;> omega)

theorem arOf3 {a b c : List Int} (h1 : a.length ≤ 1048576) (h2 : b.length ≤ 1048576) (h3 : c.length ≤ 1048576) : Ev (fun k => impl_areNats.f k [a, b, c]) (natOk a && natOk b && natOk c) := by
  have := areNats_eq [a, b, c] (by simp) (fun l hl => by simp at hl; rcases hl with rfl | rfl | rfl <;> omega)
  simpa [Bool.and_assoc] using this

theorem trimmed_loop (l : List Int) (hl : l.length ≤ 1099511627776) : ∀ (n : Nat), n ≤ l.length → Ev (fun k => impl_trimmed.l0 k l (n : Int)) (trim (l.take n)) := by
  intro n
  induction n with
  | zero =>
    intro _
    refine Ev.step (fun k => by rw [impl_trimmed.l0]) ?_
    simp only [if_neg (show ¬ ((0 : Nat) : Int) > 0 by omega), if_pos (show 0 ≤ ((0 : Nat) : Int) by omega), if_pos (show ((0 : Nat) : Int) ≤ (l.length : Int) by omega)]
    simpa [trim] using Ev.now ([] : List Int)
  | succ n ih =>
    intro hn
    refine Ev.step (fun k => by rw [impl_trimmed.l0]) ?_
    rw [take_snoc (show n < l.length by omega)]
    simp only [if_pos (show ((n + 1 : Nat) : Int) > 0 by omega), wpred (show n ≤ 1099511627776 by omega), if_pos (show 0 ≤ (n : Int) by omega), if_pos (show (n : Int) < (l.length : Int) by omega), rd, Int.toNat_natCast]
    by_cases h : l.getD n 0 = 0
    · simp only [h, if_true, trim_snoc_zero]
      exact ih (by omega)
    · simp only [if_neg h, if_pos (show 0 ≤ ((n + 1 : Nat) : Int) by omega), if_pos (show ((n + 1 : Nat) : Int) ≤ (l.length : Int) by omega), trim_snoc _ h, take_snoc (show n < l.length by omega)]
      exact Ev.now _

theorem trimmed_eq (l : List Int) (hl : l.length ≤ 1099511627776) : Ev (fun k => impl_trimmed.f k l) (trim l) := by
  have := trimmed_loop l hl l.length (Nat.le_refl _)
  rw [List.take_length] at this
  exact this

theorem norm_loop (l : List Int) (hl : l.length ≤ 1099511627776) : ∀ (n : Nat), n ≤ l.length → Ev (fun k => spec_l1Norm.l0 k l (n : Int)) (trim (l.take n)) := by
  intro n
  induction n with
  | zero =>
    intro _
    refine Ev.step (fun k => by rw [spec_l1Norm.l0]) ?_
    simp only [if_neg (show ¬ ((0 : Nat) : Int) > 0 by omega), if_pos (show 0 ≤ ((0 : Nat) : Int) by omega), if_pos (show ((0 : Nat) : Int) ≤ (l.length : Int) by omega)]
    simpa [trim] using Ev.now ([] : List Int)
  | succ n ih =>
    intro hn
    refine Ev.step (fun k => by rw [spec_l1Norm.l0]) ?_
    rw [take_snoc (show n < l.length by omega)]
    simp only [if_pos (show ((n + 1 : Nat) : Int) > 0 by omega), wpred (show n ≤ 1099511627776 by omega), if_pos (show 0 ≤ (n : Int) by omega), if_pos (show (n : Int) < (l.length : Int) by omega), rd, Int.toNat_natCast]
    by_cases h : l.getD n 0 = 0
    · simp only [h, if_true, trim_snoc_zero]
      exact ih (by omega)
    · simp only [if_neg h, if_pos (show 0 ≤ ((n + 1 : Nat) : Int) by omega), if_pos (show ((n + 1 : Nat) : Int) ≤ (l.length : Int) by omega), trim_snoc _ h, Option.bind_some, List.nil_append, List.length_nil]
      rw [if_pos (by rw [List.length_take]; omega), take_snoc (show n < l.length by omega)]
      exact Ev.now _

theorem norm_eq (l : List Int) (hl : l.length ≤ 1099511627776) : Ev (fun k => spec_l1Norm.f k l) (trim l) := by
  have := norm_loop l hl l.length (Nat.le_refl _)
  rw [List.take_length] at this
  exact this

def tab8 : ByteArray := ⟨#[0, 1, 2, 2, 3, 3, 3, 3, 4, 4, 4, 4, 4, 4, 4, 4, 5, 5, 5, 5, 5, 5, 5, 5, 5, 5, 5, 5, 5, 5, 5, 5, 6, 6, 6, 6, 6, 6, 6, 6, 6, 6, 6, 6, 6, 6, 6, 6, 6, 6, 6, 6, 6, 6, 6, 6, 6, 6, 6, 6, 6, 6, 6, 6, 7, 7, 7, 7, 7, 7, 7, 7, 7, 7, 7, 7, 7, 7, 7, 7, 7, 7, 7, 7, 7, 7, 7, 7, 7, 7, 7, 7, 7, 7, 7, 7, 7, 7, 7, 7, 7, 7, 7, 7, 7, 7, 7, 7, 7, 7, 7, 7, 7, 7, 7, 7, 7, 7, 7, 7, 7, 7, 7, 7, 7, 7, 7, 7, 8, 8, 8, 8, 8, 8, 8, 8, 8, 8, 8, 8, 8, 8, 8, 8, 8, 8, 8, 8, 8, 8, 8, 8, 8, 8, 8, 8, 8, 8, 8, 8, 8, 8, 8, 8, 8, 8, 8, 8, 8, 8, 8, 8, 8, 8, 8, 8, 8, 8, 8, 8, 8, 8, 8, 8, 8, 8, 8, 8, 8, 8, 8, 8, 8, 8, 8, 8, 8, 8, 8, 8, 8, 8, 8, 8, 8, 8, 8, 8, 8, 8, 8, 8, 8, 8, 8, 8, 8, 8, 8, 8, 8, 8, 8, 8, 8, 8, 8, 8, 8, 8, 8, 8, 8, 8, 8, 8, 8, 8, 8, 8, 8, 8, 8, 8, 8, 8, 8, 8, 8, 8, 8, 8, 8, 8, 8, 8]⟩

theorem tab8_all : ∀ n : Fin 256, bt tab8 ((n.val : Nat) : Int) = ((bl n.val : Nat) : Int) := by decide +kernel

set_option maxRecDepth 100000 in
theorem tab8_eq {x : Int} (h0 : 0 ≤ x) (h1 : x < 256) : bt (⟨#[0, 1, 2, 2, 3, 3, 3, 3, 4, 4, 4, 4, 4, 4, 4, 4, 5, 5, 5, 5, 5, 5, 5, 5, 5, 5, 5, 5, 5, 5, 5, 5, 6, 6, 6, 6, 6, 6, 6, 6, 6, 6, 6, 6, 6, 6, 6, 6, 6, 6, 6, 6, 6, 6, 6, 6, 6, 6, 6, 6, 6, 6, 6, 6, 7, 7, 7, 7, 7, 7, 7, 7, 7, 7, 7, 7, 7, 7, 7, 7, 7, 7, 7, 7, 7, 7, 7, 7, 7, 7, 7, 7, 7, 7, 7, 7, 7, 7, 7, 7, 7, 7, 7, 7, 7, 7, 7, 7, 7, 7, 7, 7, 7, 7, 7, 7, 7, 7, 7, 7, 7, 7, 7, 7, 7, 7, 7, 7, 8, 8, 8, 8, 8, 8, 8, 8, 8, 8, 8, 8, 8, 8, 8, 8, 8, 8, 8, 8, 8, 8, 8, 8, 8, 8, 8, 8, 8, 8, 8, 8, 8, 8, 8, 8, 8, 8, 8, 8, 8, 8, 8, 8, 8, 8, 8, 8, 8, 8, 8, 8, 8, 8, 8, 8, 8, 8, 8, 8, 8, 8, 8, 8, 8, 8, 8, 8, 8, 8, 8, 8, 8, 8, 8, 8, 8, 8, 8, 8, 8, 8, 8, 8, 8, 8, 8, 8, 8, 8, 8, 8, 8, 8, 8, 8, 8, 8, 8, 8, 8, 8, 8, 8, 8, 8, 8, 8, 8, 8, 8, 8, 8, 8, 8, 8, 8, 8, 8, 8, 8, 8, 8, 8, 8, 8, 8, 8]⟩ : ByteArray) x = ((bl x.toNat : Nat) : Int) := by
  have := tab8_all ⟨x.toNat, by omega⟩
  unfold tab8 at this
  rw [show (((⟨x.toNat, by omega⟩ : Fin 256).val : Nat) : Int) = x from by simp; omega] at this
  exact this

theorem blI {x : Int} (k : Nat) (h : (2 : Int) ^ k ≤ x) : ((bl x.toNat : Nat) : Int) = ((bl (x / 2 ^ k).toNat : Nat) : Int) + k := by
  have h1 := bl_shift k x.toNat (by have := two_pow_int k; omega)
  have h2 : (x / 2 ^ k).toNat = x.toNat / 2 ^ k := by
    have h3 : 0 < (2 : Int) ^ k := Int.pow_pos (by omega)
    obtain ⟨n, rfl⟩ : ∃ n : Nat, x = n := ⟨x.toNat, by omega⟩
    rw [← two_pow_int, Int.toNat_natCast, ← Int.natCast_ediv, Int.toNat_natCast]
  rw [h2, h1]
  omega

set_option maxRecDepth 100000 in
theorem len64_j0 {x c : Int} (h0 : 0 ≤ x) (h1 : x < 4294967296) (c0 : 0 ≤ c) (c1 : c ≤ 1000) : Ev (fun k => bits_Len64.j0 k x c) (c + ((bl x.toNat : Nat) : Int)) := by
  refine Ev.step (fun k => by rw [bits_Len64.j0]) ?_
  have blb : ∀ y : Int, 0 ≤ y → y < 256 → ((bl y.toNat : Nat) : Int) ≤ 8 := by
    intro y y0 y1
    have := bl_le (n := y.toNat) (k := 8) (by omega)
    omega
  by_cases p1 : x ≥ 65536
  · simp only [if_pos p1]
    have e1 := blI (x := x) 16 (by omega)
    by_cases p2 : x / 65536 ≥ 256
    · have e2 := blI (x := x / 65536) 8 (by omega)
      have r0 : 0 ≤ x / 65536 / 256 := by omega
      have r1 : x / 65536 / 256 < 256 := by omega
      have r2 : x / 65536 / 256 % 256 = x / 65536 / 256 := by omega
      have b := blb (x / 65536 / 256) (by omega) (by omega)
      simp only [if_pos p2, r2, if_pos r0, if_pos r1, tab8_eq r0 r1]
      rw [w64 (n := ((bl (x / 65536 / 256).toNat : Nat) : Int)) (by omega) (by omega), w64 (n := c + 16) (by omega) (by omega), w64 (n := c + 16 + 8) (by omega) (by omega), w64 (by omega) (by omega),
        show c + 16 + 8 + ((bl (x / 65536 / 256).toNat : Nat) : Int) = c + ((bl x.toNat : Nat) : Int) by simp only [show ((2 : Int) ^ 16) = 65536 by decide, show ((2 : Int) ^ 8) = 256 by decide] at e1 e2; omega]
      exact Ev.now _
    · have r0 : 0 ≤ x / 65536 := by omega
      have r1 : x / 65536 < 256 := by omega
      have r2 : x / 65536 % 256 = x / 65536 := by omega
      have b := blb (x / 65536) (by omega) (by omega)
      simp only [if_neg p2, r2, if_pos r0, if_pos r1, tab8_eq r0 r1]
      rw [w64 (n := ((bl (x / 65536).toNat : Nat) : Int)) (by omega) (by omega), w64 (n := c + 16) (by omega) (by omega), w64 (by omega) (by omega),
        show c + 16 + ((bl (x / 65536).toNat : Nat) : Int) = c + ((bl x.toNat : Nat) : Int) by simp only [show ((2 : Int) ^ 16) = 65536 by decide] at e1; omega]
      exact Ev.now _
  · simp only [if_neg p1]
    by_cases p2 : x ≥ 256
    · have e2 := blI (x := x) 8 (by omega)
      have r0 : 0 ≤ x / 256 := by omega
      have r1 : x / 256 < 256 := by omega
      have r2 : x / 256 % 256 = x / 256 := by omega
      have b := blb (x / 256) (by omega) (by omega)
      simp only [if_pos p2, r2, if_pos r0, if_pos r1, tab8_eq r0 r1]
      rw [w64 (n := ((bl (x / 256).toNat : Nat) : Int)) (by omega) (by omega), w64 (n := c + 8) (by omega) (by omega), w64 (by omega) (by omega),
        show c + 8 + ((bl (x / 256).toNat : Nat) : Int) = c + ((bl x.toNat : Nat) : Int) by simp only [show ((2 : Int) ^ 8) = 256 by decide] at e2; omega]
      exact Ev.now _
    · have r0 : 0 ≤ x := by omega
      have r1 : x < 256 := by omega
      have r2 : x % 256 = x := by omega
      have b := blb x (by omega) (by omega)
      simp only [if_neg p2, r2, if_pos r0, if_pos r1, tab8_eq r0 r1]
      rw [w64 (n := ((bl x.toNat : Nat) : Int)) (by omega) (by omega), w64 (by omega) (by omega)]
      exact Ev.now _

theorem len_eq {x : Int} (h0 : 0 ≤ x) (h1 : x < 18446744073709551616) : Ev (fun k => bits_Len.f k x) ((bl x.toNat : Nat) : Int) := by
  unfold bits_Len.f bits_Len64.f
  by_cases p : x ≥ 4294967296
  · simp only [if_pos p]
    have e := blI (x := x) 32 (by omega)
    have := len64_j0 (x := x / 4294967296) (c := 32) (by omega) (by omega) (by omega) (by omega)
    rw [show 32 + ((bl (x / 4294967296).toNat : Nat) : Int) = ((bl x.toNat : Nat) : Int) by simp only [show ((2 : Int) ^ 32) = 4294967296 by decide] at e; omega] at this
    exact Ev.bind this (Ev.now _)
  · simp only [if_neg p]
    have := len64_j0 (x := x) (c := 0) (by omega) (by omega) (by omega) (by omega)
    rw [Int.zero_add] at this
    exact Ev.bind this (Ev.now _)

theorem u64w {x : Int} (h0 : 0 ≤ x) (h1 : x < 18446744073709551616) : IntKind.u64.wrap x = x := by
  rw [show IntKind.u64.wrap x = x % 18446744073709551616 from by simp [IntKind.wrap, IntKind.bits, IntKind.signed]]
  omega

theorem implNatOf_loop : ∀ (m : Nat) (a : Int) (x : List Int), a < 65536 ^ m → 0 ≤ a → a ≤ 9223372036854775807 → x.length + m ≤ 100 → Dg x → (a = 0 → Nm x) →
    ∃ r, r.length ≤ x.length + m ∧ Dg r ∧ Nm r ∧ val r = val x + 65536 ^ x.length * a ∧ Ev (fun k => impl_natOf.l0 k a x) r := by
  intro m
  induction m with
  | zero =>
    intro a x h1 h0 h2 h3 hd hn
    have : a = 0 := by simp at h1; omega
    subst this
    refine ⟨x, by omega, hd, hn rfl, by simp, Ev.step (fun k => by rw [impl_natOf.l0]) ?_⟩
    simp only [if_neg (show ¬ (0 : Int) > 0 by omega)]
    exact Ev.now _
  | succ m ih =>
    intro a x h1 h0 h2 h3 hd hn
    by_cases hp : a > 0
    · have e1 : a.tdiv 65536 = a / 65536 := Int.tdiv_eq_ediv_of_nonneg (by omega)
      have e2 : a.tmod 65536 = a % 65536 := Int.tmod_eq_emod_of_nonneg (by omega)
      rw [Int.pow_succ] at h1
      obtain ⟨r, hr, d, n, v, e⟩ := ih (a / 65536) (x ++ [a % 65536]) (by omega) (by omega) (by omega) (by simp; omega) (hd.snoc (by omega) (by omega)) (fun k => by
        unfold Nm
        simp
        omega)
      refine ⟨r, by simp at hr; omega, d, n, ?_, Ev.step (fun k => by rw [impl_natOf.l0]) ?_⟩
      · rw [v, val_snoc, List.length_append, List.length_singleton, Int.pow_succ]
        have : a = a % 65536 + 65536 * (a / 65536) := by omega
        generalize a % 65536 = u at *
        generalize a / 65536 = w at *
        generalize (65536 : Int) ^ x.length = P at *
        subst this
        grind
      · simp only [if_pos hp, if_pos (show x.length < 17592186044416 by omega), e1, e2]
        rw [w64 (by omega) (by omega)]
        exact e
    · have : a = 0 := by omega
      subst this
      refine ⟨x, by omega, hd, hn rfl, by simp, Ev.step (fun k => by rw [impl_natOf.l0]) ?_⟩
      simp only [if_neg (show ¬ (0 : Int) > 0 by omega)]
      exact Ev.now _

theorem implNatOf_eq {a : Int} (h0 : 0 ≤ a) (h1 : a ≤ 9223372036854775807) : ∃ r, r.length ≤ 4 ∧ Dg r ∧ Nm r ∧ val r = a ∧ Ev (fun k => impl_natOf.f k a) r := by
  obtain ⟨r, hr, d, n, v, e⟩ := implNatOf_loop 4 a [] (by omega) h0 h1 (by simp) Dg.nil (fun _ => by simp [Nm])
  exact ⟨r, by simpa using hr, d, n, by simpa [val] using v, e⟩

theorem ImplNatOf_eq {a : Int} (h0 : 0 ≤ a) (h1 : a ≤ 9223372036854775807) : ∃ r, r.length ≤ 4 ∧ Dg r ∧ Nm r ∧ val r = a ∧ Ev (fun k => impl_NatOf.f k a) (r, true) := by
  obtain ⟨r, hr, d, n, v, e⟩ := implNatOf_eq h0 h1
  refine ⟨r, hr, d, n, v, ?_⟩
  unfold impl_NatOf.f
  simp only [if_neg (show ¬ a < 0 by omega)]
  exact Ev.bind e (Ev.now _)

theorem and16 (x : Int) : Go.bits .and .i64 x 65535 = x % 65536 := by
  unfold Go.bits
  simp only [BitVec.toNat_and]
  have h : (BitVec.ofInt IntKind.i64.bits 65535).toNat = 2 ^ 16 - 1 := by decide
  rw [h, Nat.and_two_pow_sub_one_eq_mod, BitVec.toNat_ofInt, IntKind.wrap_i64, show IntKind.i64.bits = 64 from rfl]
  omega

theorem byDigit_loop {a : List Int} (ha : Dg a) (hl : a.length ≤ 1048576) {d : Int} (d1 : d ≤ 65536) : ∀ (n : Nat) (o : List Int) (left : Int), n ≤ a.length → ByIn a o d left n →
    ∃ o' left', ByIn a o' d left' 0 ∧ Ev (fun k => impl_byDigit.l0 k a d o left ((n : Int) - 1)) (trim o', left') := by
  intro n
  induction n with
  | zero =>
    intro o left _ h
    refine ⟨o, left, h, Ev.step (fun k => by rw [impl_byDigit.l0]) ?_⟩
    simp only [if_neg (show ¬ ((0 : Nat) : Int) - 1 ≥ 0 by omega)]
    have hlen := h.len
    exact Ev.bind (trimmed_eq o (by omega)) (Ev.now _)
  | succ n ih =>
    intro o left hn h
    have l0 := h.l0
    have l1 := h.l1
    have b := ha.getD n
    obtain ⟨s1, s2, s3, s4, s5⟩ := by_step l0 l1 b.1 b.2
    obtain ⟨o', left', hi, he⟩ := ih _ _ (by omega) (h.step ha (by omega))
    have hlen := h.len
    have e0 : ((n + 1 : Nat) : Int) - 1 = (n : Int) := by omega
    have w1 : wrap64 (left * 65536) = left * 65536 := w64 (by omega) (by omega)
    have w2 : wrap64 (left * 65536 + a.getD n 0) = left * 65536 + a.getD n 0 := w64 (by omega) (by omega)
    have w3 : Int.tdiv (left * 65536 + a.getD n 0) d = (left * 65536 + a.getD n 0) / d := Int.tdiv_eq_ediv_of_nonneg (by clear w1 w2; omega)
    have w4 : Int.tmod (left * 65536 + a.getD n 0) d = (left * 65536 + a.getD n 0) % d := Int.tmod_eq_emod_of_nonneg (by clear w1 w2; omega)
    have w5 : wrap64 ((left * 65536 + a.getD n 0) / d) = (left * 65536 + a.getD n 0) / d := w64 (by clear w1 w2 w3 w4; omega) (by clear w1 w2 w3 w4; omega)
    have w6 : wrap64 ((n : Int) - 1) = (n : Int) - 1 := w64 (by clear w1 w2 w3 w4 w5; omega) (by clear w1 w2 w3 w4 w5; omega)
    have q0 : ¬ d = 0 := by clear w1 w2 w3 w4 w5 w6; omega
    have q1 : (n : Int) < (a.length : Int) := by clear w1 w2 w3 w4 w5 w6; omega
    have q2 : (n : Int) < (o.length : Int) := by clear w1 w2 w3 w4 w5 w6; omega
    have q3 : (n : Int) ≥ 0 := by clear w1 w2 w3 w4 w5 w6; omega
    refine ⟨o', left', hi, Ev.step (fun k => by rw [impl_byDigit.l0]) ?_⟩
    simp only [e0, if_pos q3, if_pos q1, if_neg q0, if_pos q2, rd, Int.toNat_natCast, w1, w2, w3, w4, w5, w6]
    exact he

theorem byDigit_eq {a : List Int} (ha : Dg a) (hl : a.length ≤ 1048576) {d : Int} (d0 : 0 < d) (d1 : d ≤ 65536) :
    ∃ q left, val q * d + left = val a ∧ Dg q ∧ Nm q ∧ 0 ≤ left ∧ left < d ∧ q.length ≤ a.length ∧ Ev (fun k => impl_byDigit.f k a d) (q, left) := by
  obtain ⟨o, left, h, e⟩ := byDigit_loop ha hl d1 a.length _ 0 (Nat.le_refl _) (ByIn.start a d0)
  have := trim_len o
  have hlen := h.len
  have heq := h.eq
  rw [List.drop_zero, List.drop_zero] at heq
  refine ⟨trim o, left, by rw [trim_val]; omega, trim_dg h.dg, trim_nm o, h.l0, h.l1, by omega, ?_⟩
  unfold impl_byDigit.f
  have q0 : 0 ≤ (a.length : Int) := by omega
  have q1 : a.length ≤ 35184372088832 := by omega
  have w : wrap64 ((a.length : Int) - 1) = (a.length : Int) - 1 := w64 (by omega) (by omega)
  simp only [if_pos q0, Int.toNat_natCast, if_pos q1, w]
  exact e

theorem shl_eq {x : Int} (s : Nat) (hs : s ≤ 15) (x0 : 0 ≤ x) (x1 : x < 65536) : shl .i64 x (s : Int) = x * 2 ^ s := by
  unfold shl
  rw [Int.toNat_natCast, Nat.min_eq_left (by show s ≤ 64; omega), i64_w]
  have h1 : (1 : Int) ≤ 2 ^ s := by have h0 : (0 : Int) < 2 ^ s := Int.pow_pos (by omega); omega
  have h2 : (2 : Int) ^ s ≤ 32768 := by
    have : (2 : Nat) ^ s ≤ 2 ^ 15 := Nat.pow_le_pow_right (by omega) hs
    have h3 := two_pow_int s
    omega
  have h3 : 0 ≤ x * 2 ^ s := Int.mul_nonneg x0 (by omega)
  have h4 : x * 2 ^ s ≤ 65535 * 32768 := Int.mul_le_mul (by omega) h2 (by omega) (by omega)
  exact w64 (by omega) (by omega)

theorem pow15 {s : Nat} (hs : s ≤ 15) : (1 : Int) ≤ 2 ^ s ∧ (2 : Int) ^ s ≤ 32768 := by
  have h1 : (0 : Int) < 2 ^ s := Int.pow_pos (by omega)
  have : (2 : Nat) ^ s ≤ 2 ^ 15 := Nat.pow_le_pow_right (by omega) hs
  have h3 := two_pow_int s
  omega

theorem shifted_loop {a : List Int} (ha : Dg a) (hl : a.length ≤ 1048576) {s : Nat} (hs : s ≤ 15) : ∀ (d i : Nat) (o : List Int) (c : Int), a.length = i + d → ShIn a o (2 ^ s) c i →
    ∃ r, val r = val a * 2 ^ s ∧ Dg r ∧ r.length = a.length + 1 ∧ Ev (fun k => impl_shifted.l0 k (s : Int) o c a (a.length : Int) (i : Int)) r := by
  intro d
  have hp := pow15 hs
  induction d with
  | zero =>
    intro i o c hi h
    obtain rfl : i = a.length := by omega
    obtain ⟨len, dg, c0, c1, eq⟩ := h
    rw [List.take_length] at eq
    refine ⟨o ++ [c], by rw [val_snoc, len]; exact eq, dg.snoc c0 (by omega), by simp [len], Ev.step (fun k => by rw [impl_shifted.l0]) ?_⟩
    simp only [if_neg (show ¬ (a.length : Int) < (a.length : Int) by omega), if_pos (show o.length < 17592186044416 by omega)]
    exact Ev.now _
  | succ d ih =>
    intro i o c hi h
    have hn := h.step ha hp.2
    obtain ⟨r, v, g, l, e⟩ := ih (i + 1) _ _ (by omega) hn
    have b := ha.getD i
    have c0 := h.c0
    have c1 := h.c1
    have len := h.len
    obtain ⟨b1, b2, b3, b4⟩ := sh_bound c0 c1 b.1 b.2 hp.2
    refine ⟨r, v, g, l, Ev.step (fun k => by rw [impl_shifted.l0]) ?_⟩
    have q1 : (i : Int) < (a.length : Int) := by omega
    have q2 : 0 ≤ (i : Int) := by omega
    have q3 : 0 ≤ (s : Int) := by omega
    have q4 : o.length < 17592186044416 := by omega
    have w1 : shl .i64 (a.getD i 0) (s : Int) = a.getD i 0 * 2 ^ s := shl_eq s hs b.1 b.2
    have w2 : wrap64 (c + a.getD i 0 * 2 ^ s) = c + a.getD i 0 * 2 ^ s := w64 (by omega) (by omega)
    have w3 : Int.tmod (c + a.getD i 0 * 2 ^ s) 65536 = (c + a.getD i 0 * 2 ^ s) % 65536 := Int.tmod_eq_emod_of_nonneg b3
    have w4 : wrap64 (Int.tdiv (c + a.getD i 0 * 2 ^ s) 65536) = (c + a.getD i 0 * 2 ^ s) / 65536 := by
      rw [Int.tdiv_eq_ediv_of_nonneg b3, w64 (by clear w2; omega) (by clear w2; omega)]
    have w5 : wrap64 ((i : Int) + 1) = ((i + 1 : Nat) : Int) := wsucc (by clear w2 w4; omega)
    simp only [if_pos q1, if_pos q2, if_pos q3, if_pos q4, rd, Int.toNat_natCast, w1, w2, w3, w4, w5]
    exact e

theorem shifted_eq {a : List Int} (ha : Dg a) (hl : a.length ≤ 1048576) {s : Nat} (hs : s ≤ 15) :
    ∃ r, val r = val a * 2 ^ s ∧ Dg r ∧ r.length = a.length + 1 ∧ Ev (fun k => impl_shifted.f k a (s : Int)) r :=
  shifted_loop ha hl hs a.length 0 [] 0 (by omega) (ShIn.start a (by have := pow15 hs; omega))

theorem takeAway_loop {p d : List Int} (hd : Dg d) (hl : p.length ≤ 1048576) {q : Int} (q0 : 0 ≤ q) (q1 : q ≤ 65535) : ∀ (m i : Nat) (x : List Int) (c : Int), p.length = i + m → TakeIn p d x q c i →
    ∃ x' c', TakeIn p d x' q c' p.length ∧ Ev (fun k => impl_takeAway.l0 k x d q c (p.length : Int) (i : Int)) (decide (c' < 0), x') := by
  intro m
  induction m with
  | zero =>
    intro i x c hi h
    obtain rfl : i = p.length := by omega
    refine ⟨x, c, h, Ev.step (fun k => by rw [impl_takeAway.l0]) ?_⟩
    simp only [if_neg (show ¬ (p.length : Int) < (p.length : Int) by omega)]
    exact Ev.now _
  | succ m ih =>
    intro i x c hi h
    have hn := h.step hd q0 q1 (show i < p.length by omega)
    obtain ⟨x', c', ht, e⟩ := ih (i + 1) _ _ (by omega) hn
    have b := h.dg.getD i
    have b' := hd.getD i
    have c0 := h.c0
    have c1 := h.c1
    have len := h.len
    obtain ⟨t1, t2, t3, t4⟩ := take_bound c0 c1 b.1 b.2 b'.1 b'.2 q0 q1
    refine ⟨x', c', ht, Ev.step (fun k => by rw [impl_takeAway.l0]) ?_⟩
    have g1 : (i : Int) < (p.length : Int) := by omega
    have g2 : 0 ≤ (i : Int) := by omega
    have g3 : (i : Int) < (x.length : Int) := by omega
    have w1 : wrap64 (x.getD i 0 + c) = x.getD i 0 + c := w64 (by omega) (by omega)
    have w2 : wrap64 (q * d.getD i 0) = q * d.getD i 0 := w64 (by clear w1; omega) (by clear w1; omega)
    have w3 : wrap64 (x.getD i 0 + c - q * d.getD i 0) = x.getD i 0 + c - q * d.getD i 0 := w64 (by clear w1 w2; omega) (by clear w1 w2; omega)
    have w4 : wrap64 ((i : Int) + 1) = ((i + 1 : Nat) : Int) := wsucc (by clear w1 w2 w3; omega)
    simp only [if_pos g1, if_pos g2, if_pos g3, rd, Int.toNat_natCast, w4]
    by_cases hd' : (i : Int) < (d.length : Int)
    · simp only [if_pos hd', w1, w2, w3, and16]
      exact e
    · have z : d.getD i 0 = 0 := by
        rw [List.getD_eq_getElem?_getD, List.getElem?_eq_none (by clear w1 w2 w3 w4; omega)]
        rfl
      rw [z, Int.mul_zero, Int.sub_zero] at e
      simp only [if_neg hd', w1, and16]
      exact e

theorem takeAway_eq {p d : List Int} (hp : Dg p) (hd : Dg d) (hl : p.length ≤ 1048576) {q : Int} (q0 : 0 ≤ q) (q1 : q ≤ 65535) :
    ∃ x c, TakeIn p d x q c p.length ∧ Ev (fun k => impl_takeAway.f k p d q) (decide (c < 0), x) :=
  takeAway_loop hd hl q0 q1 p.length 0 p 0 (by omega) (TakeIn.start hp q)

theorem giveBack_loop {p d : List Int} (hd : Dg d) (hl : p.length ≤ 1048576) : ∀ (m i : Nat) (x : List Int) (c : Int), p.length = i + m → GiveIn p d x c i →
    ∃ x' c', GiveIn p d x' c' p.length ∧ Ev (fun k => impl_giveBack.l0 k x d c (p.length : Int) (i : Int)) x' := by
  intro m
  induction m with
  | zero =>
    intro i x c hi h
    obtain rfl : i = p.length := by omega
    refine ⟨x, c, h, Ev.step (fun k => by rw [impl_giveBack.l0]) ?_⟩
    simp only [if_neg (show ¬ (p.length : Int) < (p.length : Int) by omega)]
    exact Ev.now _
  | succ m ih =>
    intro i x c hi h
    have hn := h.step hd (show i < p.length by omega)
    obtain ⟨x', c', ht, e⟩ := ih (i + 1) _ _ (by omega) hn
    have b := h.dg.getD i
    have b' := hd.getD i
    have c0 := h.c0
    have c1 := h.c1
    have len := h.len
    refine ⟨x', c', ht, Ev.step (fun k => by rw [impl_giveBack.l0]) ?_⟩
    have g1 : (i : Int) < (p.length : Int) := by omega
    have g2 : 0 ≤ (i : Int) := by omega
    have g3 : (i : Int) < (x.length : Int) := by omega
    have w1 : wrap64 (c + x.getD i 0) = c + x.getD i 0 := w64 (by omega) (by omega)
    have w3 : wrap64 (c + x.getD i 0 + d.getD i 0) = c + x.getD i 0 + d.getD i 0 := w64 (by clear w1; omega) (by clear w1; omega)
    have w4 : wrap64 ((i : Int) + 1) = ((i + 1 : Nat) : Int) := wsucc (by clear w1 w3; omega)
    simp only [if_pos g1, if_pos g2, if_pos g3, rd, Int.toNat_natCast, w4]
    by_cases hd' : (i : Int) < (d.length : Int)
    · simp only [if_pos hd', w1, w3, and16]
      exact e
    · have z : d.getD i 0 = 0 := by
        rw [List.getD_eq_getElem?_getD, List.getElem?_eq_none (by clear w1 w3 w4; omega)]
        rfl
      rw [z, Int.add_zero] at e
      simp only [if_neg hd', w1, and16]
      exact e

theorem giveBack_eq {p d : List Int} (hp : Dg p) (hd : Dg d) (hl : p.length ≤ 1048576) :
    ∃ x c, GiveIn p d x c p.length ∧ Ev (fun k => impl_giveBack.f k p d) x :=
  giveBack_loop hd hl p.length 0 p 0 (by omega) (GiveIn.start hp)

/-- THE DIGIT. From a guess that is not too small the loop comes to the true digit, and leaves what is left. -/
theorem digit_loop {P D r o : List Int} {n j : Nat} {s : Int} (h : Guess P D n) (hl : P.length ≤ 1048576) (hj : j < o.length) (hjl : o.length ≤ 1048576) : ∀ (m : Nat) (q : Int), q.toNat ≤ m → 0 ≤ q → q ≤ 65535 →
    q * D.getD (n + 1) 0 ≤ P.getD (n + 2) 0 * 65536 + P.getD (n + 1) 0 → (∀ t, 0 ≤ t → t * val D ≤ val P → t ≤ q) →
    ∃ g x, 0 ≤ g ∧ g < 65536 ∧ Dg x ∧ x.length = P.length ∧ val x = val P - g * val D ∧ val x < val D ∧
      ∀ R, Ev (fun k => impl_natDiv.l0 k ((n + 2 : Nat) : Int) s (spl r j x) D (o.set j g) ((j : Int) - 1)) R →
        Ev (fun k => impl_natDiv.l1 k ((n + 2 : Nat) : Int) s r P D o (j : Int) (P.getD (n + 2) 0 * 65536 + P.getD (n + 1) 0) q) R := by
  intro m
  have hpl := h.plen
  have hdl := h.dlen
  have g1 : wrap64 (((n + 2 : Nat) : Int) - 2) = (n : Int) := by rw [w64 (by omega) (by omega)]; omega
  have g2 : wrap64 (((n + 2 : Nat) : Int) - 1) = ((n + 1 : Nat) : Int) := by rw [w64 (by omega) (by omega)]; omega
  have g3 : 0 ≤ (n : Int) := by clear g1 g2; omega
  have g4 : (n : Int) < (D.length : Int) := by clear g1 g2; omega
  have g5 : 0 ≤ ((n + 1 : Nat) : Int) := by clear g1 g2; omega
  have g6 : ((n + 1 : Nat) : Int) < (D.length : Int) := by clear g1 g2; omega
  have g7 : (n : Int) < (P.length : Int) := by clear g1 g2; omega
  have g8 : wrap64 ((j : Int) - 1) = (j : Int) - 1 := w64 (by clear g1 g2; omega) (by clear g1 g2; omega)
  have g9 : 0 ≤ (j : Int) := by clear g1 g2 g8; omega
  have g10 : (j : Int) < (o.length : Int) := by clear g1 g2 g8; omega
  have b1 := h.dd.getD n
  have b2 := h.dd.getD (n + 1)
  have b3 := h.pd.getD n
  have b4 := h.pd.getD (n + 1)
  have b5 := h.pd.getD (n + 2)
  have tests : ∀ q : Int, 0 ≤ q → q ≤ 65535 → q * D.getD (n + 1) 0 ≤ P.getD (n + 2) 0 * 65536 + P.getD (n + 1) 0 →
      (wrap64 (q * D.getD n 0) > wrap64 (wrap64 (wrap64 (P.getD (n + 2) 0 * 65536 + P.getD (n + 1) 0 - wrap64 (q * D.getD (n + 1) 0)) * 65536) + P.getD n 0) ↔ over P D n q) := by
    clear g1 g2 g8
    intro q q0 q1 q2
    have m1 : 0 ≤ q * D.getD n 0 := Int.mul_nonneg q0 b1.1
    have m2 : q * D.getD n 0 ≤ 65535 * 65535 := Int.mul_le_mul (by omega) (by omega) b1.1 (by omega)
    have m3 : 0 ≤ q * D.getD (n + 1) 0 := Int.mul_nonneg q0 b2.1
    unfold over
    generalize q * D.getD n 0 = u at *
    generalize q * D.getD (n + 1) 0 = v at *
    rw [w64 (n := u) (by omega) (by omega), w64 (n := v) (by omega) (by omega), w64 (n := _ - v) (by omega) (by omega), w64 (n := _ * 65536) (by omega) (by omega), w64 (n := _ + P.getD n 0) (by omega) (by omega)]
  induction m with
  | zero =>
    intro q qm q0 q1 q2 q3
    obtain rfl : q = 0 := by clear g1 g2 g8; omega
    have ho : ¬ over P D n 0 := h.low (by clear g1 g2 g8; omega) (by have := val_nonneg h.pd; clear g1 g2 g8; omega)
    obtain ⟨x, c, ht, e⟩ := takeAway_eq (q := 0) h.pd h.dd hl (by clear g1 g2 g8; omega) (by clear g1 g2 g8; omega)
    have hc : ¬ c < 0 := by
      intro hc
      obtain ⟨y, c2, hg, e2⟩ := giveBack_eq ht.dg h.dd (by rw [ht.len]; exact hl)
      have := h.unfit q1 q3 ho ht hc (by exact hg)
      clear g1 g2 g8
      omega
    obtain ⟨f1, f2⟩ := h.fit q1 q3 ho ht hc
    refine ⟨0, x, by clear g1 g2 g8; omega, by clear g1 g2 g8; omega, ht.dg, ht.len, f1, f2, fun R hR => Ev.step (fun k => by rw [impl_natDiv.l1]) ?_⟩
    have ht2 := (not_congr (tests 0 q0 q1 q2)).2 ho
    simp only [g1, g2, if_pos g3, if_pos g4, if_pos g5, if_pos g6, if_pos g7, rd, Int.toNat_natCast, if_neg ht2]
    refine Ev.bind e ?_
    simp only [decide_eq_true_iff, if_neg hc, if_pos g9, if_pos g10, g8]
    exact hR
  | succ m ih =>
    intro q qm q0 q1 q2 q3
    by_cases ho : over P D n q
    · have hq : 1 ≤ q := by
        rcases Int.lt_or_le 0 q with hq | hq
        · clear g1 g2 g8; omega
        · exfalso
          obtain rfl : q = 0 := by clear g1 g2 g8; omega
          exact h.low (q := 0) (by clear g1 g2 g8; omega) (by have := val_nonneg h.pd; clear g1 g2 g8; omega) ho
      have hm : (q - 1) * D.getD (n + 1) 0 = q * D.getD (n + 1) 0 - D.getD (n + 1) 0 := by rw [Int.sub_mul, Int.one_mul]
      obtain ⟨g, x, r0, r1, r2, r3, r4, r5, r6⟩ := ih (q - 1) (by clear g1 g2 g8; omega) (by clear g1 g2 g8; omega) (by clear g1 g2 g8; omega) (by clear g1 g2 g8; omega) (fun t t0 t1 => by
        have h1 := q3 t t0 t1
        have h2 : t ≠ q := by rintro rfl; exact h.low t0 t1 ho
        clear g1 g2 g8
        omega)
      refine ⟨g, x, r0, r1, r2, r3, r4, r5, fun R hR => Ev.step (fun k => by rw [impl_natDiv.l1]) ?_⟩
      have ht2 := (tests q q0 q1 q2).2 ho
      have w : wrap64 (q - 1) = q - 1 := w64 (by clear g1 g2 g8 ht2; omega) (by clear g1 g2 g8 ht2; omega)
      simp only [g1, g2, if_pos g3, if_pos g4, if_pos g5, if_pos g6, if_pos g7, rd, Int.toNat_natCast, if_pos ht2, w]
      exact r6 R hR
    · obtain ⟨x, c, ht, e⟩ := takeAway_eq (q := q) h.pd h.dd hl q0 q1
      have ht2 := (not_congr (tests q q0 q1 q2)).2 ho
      by_cases hc : c < 0
      · obtain ⟨y, c2, hg, e2⟩ := giveBack_eq ht.dg h.dd (by rw [ht.len]; exact hl)
        obtain ⟨f1, f2, f3⟩ := h.unfit q1 q3 ho ht hc hg
        refine ⟨q - 1, y, f3, by clear g1 g2 g8 ht2; omega, hg.dg, by rw [hg.len, ht.len], f1, f2, fun R hR => Ev.step (fun k => by rw [impl_natDiv.l1]) ?_⟩
        have w : wrap64 (q - 1) = q - 1 := w64 (by clear g1 g2 g8 ht2; omega) (by clear g1 g2 g8 ht2; omega)
        simp only [g1, g2, if_pos g3, if_pos g4, if_pos g5, if_pos g6, if_pos g7, rd, Int.toNat_natCast, if_neg ht2]
        refine Ev.bind e ?_
        simp only [decide_eq_true_iff, if_pos hc]
        refine Ev.bind e2 ?_
        simp only [if_pos g9, if_pos g10, g8, w]
        exact hR
      · obtain ⟨f1, f2⟩ := h.fit q1 q3 ho ht hc
        refine ⟨q, x, q0, by clear g1 g2 g8 ht2; omega, ht.dg, ht.len, f1, f2, fun R hR => Ev.step (fun k => by rw [impl_natDiv.l1]) ?_⟩
        simp only [g1, g2, if_pos g3, if_pos g4, if_pos g5, if_pos g6, if_pos g7, rd, Int.toNat_natCast, if_neg ht2]
        refine Ev.bind e ?_
        simp only [decide_eq_true_iff, if_neg hc, if_pos g9, if_pos g10, g8]
        exact hR

theorem outer_loop {N : Int} {D : List Int} {n : Nat} {s : Int} (hd : Dg D) (hD : D.length = n + 2) (hpos : 0 < D.getD (n + 1) 0) {m : Nat} (hm : m + D.length ≤ 1048576) : ∀ (i : Nat) (r o : List Int), DivInv N D r o m i →
    ∃ r' o', DivInv N D r' o' m 0 ∧ ∀ R, Ev (fun k => impl_natDiv.l0 k ((n + 2 : Nat) : Int) s r' D o' (-1)) R → Ev (fun k => impl_natDiv.l0 k ((n + 2 : Nat) : Int) s r D o ((i : Int) - 1)) R := by
  intro i
  induction i with
  | zero => exact fun r o h => ⟨r, o, h, fun R hR => hR⟩
  | succ i ih =>
    intro r o h
    have hlt := h.lt hd
    have rlen := h.rlen
    have olen := h.olen
    have im := h.im
    have G : Guess ((r.drop i).take (D.length + 1)) D n := ⟨by rw [List.length_take, List.length_drop]; omega, hD, (h.rd.drop i).take _, hd, hpos, hlt⟩
    obtain ⟨P, hP⟩ : ∃ P, P = (r.drop i).take (D.length + 1) := ⟨_, rfl⟩
    rw [← hP] at G
    have hPl := G.plen
    have b1 := G.pd.getD (n + 1)
    have b2 := G.pd.getD (n + 2)
    have b3 := hd.getD (n + 1)
    have t0 : 0 ≤ P.getD (n + 2) 0 * 65536 + P.getD (n + 1) 0 := by omega
    have t1 : P.getD (n + 2) 0 * 65536 + P.getD (n + 1) 0 ≤ 4294967295 := by omega
    have hq : mn 65535 ((P.getD (n + 2) 0 * 65536 + P.getD (n + 1) 0) / D.getD (n + 1) 0) ≤ 65535 ∧ mn 65535 ((P.getD (n + 2) 0 * 65536 + P.getD (n + 1) 0) / D.getD (n + 1) 0) ≤ (P.getD (n + 2) 0 * 65536 + P.getD (n + 1) 0) / D.getD (n + 1) 0 ∧
        (∀ t, t ≤ 65535 → t ≤ (P.getD (n + 2) 0 * 65536 + P.getD (n + 1) 0) / D.getD (n + 1) 0 → t ≤ mn 65535 ((P.getD (n + 2) 0 * 65536 + P.getD (n + 1) 0) / D.getD (n + 1) 0)) := by
      unfold mn
      split
      · exact ⟨by omega, by omega, fun t h1 h2 => h2⟩
      · exact ⟨by omega, by omega, fun t h1 h2 => h1⟩
    have hdiv : 0 ≤ (P.getD (n + 2) 0 * 65536 + P.getD (n + 1) 0) / D.getD (n + 1) 0 := Int.ediv_nonneg t0 (by omega)
    have hdiv1 : (P.getD (n + 2) 0 * 65536 + P.getD (n + 1) 0) / D.getD (n + 1) 0 ≤ 4294967295 := by
      have := Int.ediv_le_self (D.getD (n + 1) 0) t0
      omega
    obtain ⟨hq1, hq2, hq3⟩ := hq
    have hq0 := hq3 0 (by omega) hdiv
    obtain ⟨g, x, g0, g1, xd, xl, xv, xlt, hr⟩ := digit_loop (r := r) (o := o) (j := i) (s := s) G (by omega) (by omega) (by omega) _ _ (Nat.le_refl _) hq0 hq1
      (by rw [Int.le_ediv_iff_mul_le hpos] at hq2; exact hq2) (fun t h0 h1 => (fun hf => hq3 t hf.1 hf.2) (G.first h0 h1))
    have hs := h.step hd (x := x) (q := g) xd (by rw [xl, hPl, hD]) g0 g1 (by rw [← hP]; exact xv) xlt
    obtain ⟨r', o', hfin, hrec⟩ := ih (spl r i x) (o.set i g) hs
    refine ⟨r', o', hfin, fun R hR => Ev.step (fun k => by rw [impl_natDiv.l0]) ?_⟩
    have key := hr R (hrec R hR)
    clear hr hrec hs ih hfin hR
    have e0 : ((i + 1 : Nat) : Int) - 1 = (i : Int) := by omega
    have e1 : wrap64 (wrap64 ((i : Int) + ((n + 2 : Nat) : Int)) + 1) = ((i + (n + 3) : Nat) : Int) := by
      rw [w64 (n := (i : Int) + _) (by omega) (by omega), w64 (by omega) (by omega)]
      omega
    have e2 : pt_ r (i : Int) ((i + (n + 3) : Nat) : Int) = P := by
      rw [hP, hD]
      unfold pt_
      rw [Int.toNat_natCast, Int.toNat_natCast, show i + (n + 3) - i = n + 2 + 1 by clear e1; omega]
    have e3 : wrap64 (((n + 2 : Nat) : Int) - 1) = ((n + 1 : Nat) : Int) := by rw [w64 (by clear e1; omega) (by clear e1; omega)]; clear e1; omega
    have e4 : wrap64 (P.getD (n + 2) 0 * 65536) = P.getD (n + 2) 0 * 65536 := w64 (by clear e1 e3; omega) (by clear e1 e3; omega)
    have e5 : wrap64 (P.getD (n + 2) 0 * 65536 + P.getD (n + 1) 0) = P.getD (n + 2) 0 * 65536 + P.getD (n + 1) 0 := w64 (by clear e1 e3 e4; omega) (by clear e1 e3 e4; omega)
    have e6 : wrap64 (Int.tdiv (P.getD (n + 2) 0 * 65536 + P.getD (n + 1) 0) (D.getD (n + 1) 0)) = (P.getD (n + 2) 0 * 65536 + P.getD (n + 1) 0) / D.getD (n + 1) 0 := by
      rw [Int.tdiv_eq_ediv_of_nonneg t0, w64 (by clear e1 e3 e4 e5; omega) (by clear e1 e3 e4 e5; omega)]
    have c1 : (i : Int) ≥ 0 := by clear e1 e3 e4 e5 e6; omega
    have c2 : (i : Int) ≤ ((i + (n + 3) : Nat) : Int) := by clear e1 e3 e4 e5 e6; omega
    have c3 : ((i + (n + 3) : Nat) : Int) ≤ (r.length : Int) := by clear e1 e3 e4 e5 e6; omega
    have c4 : 0 ≤ ((n + 2 : Nat) : Int) := by clear e1 e3 e4 e5 e6; omega
    have c5 : ((n + 2 : Nat) : Int) < (P.length : Int) := by clear e1 e3 e4 e5 e6; omega
    have c6 : 0 ≤ ((n + 1 : Nat) : Int) := by clear e1 e3 e4 e5 e6; omega
    have c7 : ((n + 1 : Nat) : Int) < (P.length : Int) := by clear e1 e3 e4 e5 e6; omega
    have c8 : ((n + 1 : Nat) : Int) < (D.length : Int) := by clear e1 e3 e4 e5 e6; omega
    have c9 : ¬ D.getD (n + 1) 0 = 0 := by clear e1 e3 e4 e5 e6; omega
    simp only [e0, if_pos c1, e1, if_pos c2, if_pos c3, if_pos c4, e2, if_pos c5, e3, if_pos c6, if_pos c7, if_pos c8, rd, Int.toNat_natCast, if_neg c9, e4, e5, e6]
    exact key

theorem clone_eq {a : List Int} (hl : a.length ≤ 1048576) : slices_Clone_int.f a = some a := by
  unfold slices_Clone_int.f
  rw [if_pos (by omega)]

/-- THE DIVISION: how often, and what is left. -/
theorem natDiv_eq {a b : List Int} (ha : Dg a) (hb : Dg b) (na : Nm a) (nb : Nm b) (hne : b ≠ []) (h1 : a.length ≤ 1000000) (h2 : b.length ≤ 1000000) :
    ∃ q r, val q * val b + val r = val a ∧ val r < val b ∧ Dg q ∧ Nm q ∧ Dg r ∧ Nm r ∧ q.length ≤ a.length + 1 ∧ r.length ≤ 1000001 ∧ Ev (fun k => impl_natDiv.f k a b) (q, r) := by
  have cs := implCompare_eq ha hb na nb (by omega) (by omega)
  have bl0 := List.length_pos_iff.2 hne
  unfold impl_natDiv.f
  by_cases hlt : val a < val b
  · have e : cmpI (val a) (val b) < 0 := by unfold cmpI; rw [if_pos hlt]; decide
    refine ⟨[], a, by simp [val], hlt, Dg.nil, by simp [Nm], ha, na, by simp, by omega, Ev.bind cs ?_⟩
    simp only [if_pos e, clone_eq (show a.length ≤ 1048576 by omega), Option.bind_some]
    exact Ev.now _
  · have e : ¬ cmpI (val a) (val b) < 0 := by unfold cmpI; rw [if_neg hlt]; split <;> decide
    have hll := len_le_of_val ha hb nb (show val b ≤ val a by omega)
    by_cases hl1 : b.length = 1
    · have lp := last_pos hb nb hne
      rw [hl1] at lp
      have b0 := hb.getD 0
      have vb : val b = b.getD 0 0 := by
        obtain ⟨d, rfl⟩ : ∃ d, b = [d] := List.length_eq_one_iff.1 hl1
        simp [val]
      obtain ⟨q, left, v, qd, qn, l0, l1, ql, e1⟩ := byDigit_eq ha (by omega) (d := b.getD 0 0) lp (by omega)
      obtain ⟨r, rl, rd', rn, rv, e2⟩ := implNatOf_eq (a := left) l0 (by omega)
      refine ⟨q, r, by rw [vb, rv]; exact v, by rw [vb, rv]; exact l1, qd, qn, rd', rn, by omega, by omega, Ev.bind cs ?_⟩
      have c1 : (b.length : Int) = 1 := by omega
      have c2 : (0 : Int) < (b.length : Int) := by omega
      simp only [if_neg e, if_pos c1, if_pos c2, rd, Int.toNat_zero]
      refine Ev.bind e1 ?_
      exact Ev.bind e2 (Ev.now _)
    · obtain ⟨n, hn⟩ : ∃ n, b.length = n + 2 := ⟨b.length - 2, by omega⟩
      have lp := last_pos hb nb hne
      have lb := hb.getD (b.length - 1)
      obtain ⟨L, hL⟩ : ∃ L, L = bl (b.getD (b.length - 1) 0).toNat := ⟨_, rfl⟩
      have hL16 : L ≤ 16 := by rw [hL]; exact bl_le (by omega)
      have hL1 : 1 ≤ L := by rw [hL, bl_pos (by omega)]; omega
      have hLlt : b.getD (b.length - 1) 0 + 1 ≤ 2 ^ L := by
        have h3 := bl_lt (b.getD (b.length - 1) 0).toNat
        rw [← hL] at h3
        have h4 := two_pow_int L
        omega
      have hs15 : 16 - L ≤ 15 := by omega
      have hp := pow15 hs15
      have hprod : (2 : Int) ^ L * 2 ^ (16 - L) = 65536 := by
        rw [← Int.pow_add, show L + (16 - L) = 16 by omega]
        decide
      have hlong : val b * 2 ^ (16 - L) < 65536 ^ b.length := long_lt hb hne (by omega) (by
        have := Int.mul_le_mul_of_nonneg_right hLlt (show (0 : Int) ≤ 2 ^ (16 - L) by omega)
        omega)
      obtain ⟨r0, r0v, r0d, r0l, e2⟩ := shifted_eq ha (by omega) hs15
      obtain ⟨d0, d0v, d0d, d0l, e3⟩ := shifted_eq hb (by omega) hs15
      have hdtake : val (d0.take b.length) = val b * 2 ^ (16 - L) := by
        have h3 := val_split d0 (i := b.length) (by omega)
        have h4 := val_nonneg (d0d.drop b.length)
        have h5 := val_nonneg (d0d.take b.length)
        have h6 : val (d0.drop b.length) = 0 := by
          rcases Int.lt_or_le 0 (val (d0.drop b.length)) with h7 | h7
          · have : 65536 ^ b.length * 1 ≤ 65536 ^ b.length * val (d0.drop b.length) := Int.mul_le_mul_of_nonneg_left (by omega) (Int.le_of_lt (pow_pos' _))
            omega
          · omega
        rw [h6] at h3
        omega
      have hdlen : (d0.take b.length).length = b.length := by rw [List.length_take]; omega
      obtain ⟨D, hD⟩ : ∃ D, D = d0.take b.length := ⟨_, rfl⟩
      have Dd : Dg D := by rw [hD]; exact d0d.take _
      rw [← hD] at hdtake hdlen
      have start := DivInv.start ha hb nb hne (t := 2 ^ (16 - L)) (by omega) r0d Dd r0l hdlen r0v hdtake hll
      have Dpos : 0 < D.getD (n + 1) 0 := by
        have h3 := Dd.getD (n + 1)
        rcases Int.lt_or_le 0 (D.getD (n + 1) 0) with h4 | h4
        · exact h4
        · exfalso
          have h5 : D.getD (n + 1) 0 = 0 := by omega
          have h6 := val_take_succ' D (n + 1)
          rw [show n + 1 + 1 = D.length by omega, List.take_length, h5, Int.mul_zero, Int.add_zero] at h6
          have h7 := (val_take_lt Dd (i := n + 1) (by omega)).2
          have h8 := val_ge hb nb hne
          rw [show b.length - 1 = n + 1 by omega] at h8
          have h9 : val b * 1 ≤ val b * 2 ^ (16 - L) := Int.mul_le_mul_of_nonneg_left (by omega) (val_nonneg hb)
          omega
      obtain ⟨r', o', fin, hrec⟩ := outer_loop (s := ((16 - L : Nat) : Int)) Dd (by omega) Dpos (by omega) (r0.length - D.length) _ _ start
      obtain ⟨f1, f2, f3⟩ := fin.done Dd
      have r'l := fin.rlen
      have o'l := fin.olen
      have T1 := trimmed_eq (r'.take (n + 2)) (by rw [List.length_take]; omega)
      have T2 := trimmed_eq o' (by omega)
      have tl := trim_len (r'.take (n + 2))
      rw [List.length_take] at tl
      obtain ⟨x, left, xv, xd, xn, l0, l1, xl, e4⟩ := byDigit_eq (a := trim (r'.take (n + 2))) (trim_dg (fin.rd.take _)) (by omega) (d := 2 ^ (16 - L)) (by omega) (by omega)
      rw [trim_val] at xv
      rw [show D.length = n + 2 by omega] at f1
      rw [f1] at xv
      rw [hdtake] at f2 f3
      obtain ⟨g1, g2, g3⟩ := div_back (by omega) f3 xv l0 l1 f2
      have tlo := trim_len o'
      refine ⟨trim o', x, by rw [trim_val]; exact g2, g3, trim_dg fin.od, trim_nm o', xd, xn, by omega, by omega, Ev.bind cs ?_⟩
      have w1 : wrap64 ((b.length : Int) - 1) = ((b.length - 1 : Nat) : Int) := by rw [w64 (by omega) (by omega)]; omega
      have c1 : ¬ (b.length : Int) = 1 := by clear w1; omega
      have c2 : 0 ≤ ((b.length - 1 : Nat) : Int) := by clear w1; omega
      have c3 : ((b.length - 1 : Nat) : Int) < (b.length : Int) := by clear w1; omega
      have c4 : 0 ≤ (b.length : Int) := by clear w1; omega
      have c5 : (b.length : Int) ≤ (d0.length : Int) := by clear w1; omega
      have w2 : wrap64 ((r0.length : Int) - (b.length : Int)) = ((r0.length - D.length : Nat) : Int) := by clear w1; rw [w64 (by omega) (by omega)]; omega
      have c6 : 0 ≤ ((r0.length - D.length : Nat) : Int) := by clear w1 w2; omega
      have c7 : r0.length - D.length ≤ 35184372088832 := by clear w1 w2; omega
      have w3 : wrap64 (16 - (L : Int)) = ((16 - L : Nat) : Int) := by clear w1 w2; rw [w64 (by omega) (by omega)]; omega
      have w4 : wrap64 (((r0.length - D.length : Nat) : Int) - 1) = ((r0.length - D.length : Nat) : Int) - 1 := by clear w1 w2 w3; exact w64 (by omega) (by omega)
      have w5 : (b.length : Int) = ((n + 2 : Nat) : Int) := by clear w1 w2 w3 w4; omega
      simp only [if_neg e, if_neg c1, w1, if_pos c2, if_pos c3, rd, Int.toNat_natCast]
      clear w1
      rw [u64w (by clear w2 w3 w4; omega) (by clear w2 w3 w4; omega)]
      refine Ev.bind (len_eq (by clear w2 w3 w4; omega) (by clear w2 w3 w4; omega)) ?_
      rw [← hL]
      simp only [w3]
      refine Ev.bind e2 ?_
      refine Ev.bind e3 ?_
      simp only [if_pos c4, if_pos c5, w2, if_pos c6, Int.toNat_natCast, if_pos c7, Option.bind_some, List.length_replicate, w4, ← hD]
      simp only [w5]
      refine hrec _ (Ev.step (fun k => by rw [impl_natDiv.l0]) ?_)
      have d1 : ¬ (-1 : Int) ≥ 0 := by clear w2 w3 w4; omega
      have d2 : 0 ≤ ((n + 2 : Nat) : Int) := by clear w2 w3 w4; omega
      have d3 : ((n + 2 : Nat) : Int) ≤ (r'.length : Int) := by clear w2 w3 w4; omega
      have d4 : 0 ≤ ((16 - L : Nat) : Int) := by clear w2 w3 w4; omega
      have w6 : shl .i64 1 ((16 - L : Nat) : Int) = 2 ^ (16 - L) := by
        clear w2 w3 w4
        rw [shl_eq (x := 1) (16 - L) hs15 (by omega) (by omega), Int.one_mul]
      simp only [if_neg d1, if_pos d2, if_pos d3, Int.toNat_natCast]
      refine Ev.bind T1 ?_
      simp only [if_pos d4, w6]
      refine Ev.bind e4 ?_
      exact Ev.bind T2 (Ev.now _)

theorem getD_out {l : List Int} {i : Nat} (h : ¬ (i : Int) < (l.length : Int)) : l.getD i 0 = 0 := by
  rw [List.getD_eq_getElem?_getD, List.getElem?_eq_none (by omega)]
  rfl

theorem implSub_loop {a b : List Int} (ha : Dg a) (hb : Dg b) (nb : Nm b) (hv : val b ≤ val a) (h1 : a.length ≤ 1048576) : ∀ (d i : Nat) (x : List Int) (c : Int), a.length = i + d → SubInv a b x c i →
    ∃ r, val r = val a - val b ∧ Dg r ∧ r.length = a.length ∧ Ev (fun k => impl_natSub.l0 k b x c a (a.length : Int) (i : Int)) (trim r) := by
  intro d
  induction d with
  | zero =>
    intro i x c hi h
    obtain rfl : i = a.length := by omega
    refine ⟨x, h.done ha hb nb hv, h.dg, h.len, Ev.step (fun k => by rw [impl_natSub.l0]) ?_⟩
    simp only [if_neg (show ¬ (a.length : Int) < (a.length : Int) by omega)]
    exact Ev.bind (trimmed_eq x (by rw [h.len]; omega)) (Ev.now _)
  | succ d ih =>
    intro i x c hi h
    have b1 := ha.getD i
    have b2 := hb.getD i
    have c0 := h.c0
    have c1 := h.c1
    have len := h.len
    have key : ∀ y : Int, y = b.getD i 0 → ∃ r, val r = val a - val b ∧ Dg r ∧ r.length = a.length ∧
        Ev (fun k => if wrap64 (wrap64 (a.getD i 0 - c) - y) < 0 then (if x.length < 17592186044416 then impl_natSub.l0 k b (x ++ [wrap64 (wrap64 (wrap64 (a.getD i 0 - c) - y) + 65536)]) 1 a (a.length : Int) ((i + 1 : Nat) : Int) else none)
          else (if x.length < 17592186044416 then impl_natSub.l0 k b (x ++ [wrap64 (wrap64 (a.getD i 0 - c) - y)]) 0 a (a.length : Int) ((i + 1 : Nat) : Int) else none)) (trim r) := by
      intro y hy
      subst hy
      rw [w64 (n := a.getD i 0 - c) (by omega) (by omega), w64 (n := a.getD i 0 - c - b.getD i 0) (by omega) (by omega)]
      by_cases hlt : a.getD i 0 - c - b.getD i 0 < 0
      · obtain ⟨r, v, g, l, e⟩ := ih (i + 1) _ _ (by omega) (h.step_lt ha hb hlt)
        refine ⟨r, v, g, l, ?_⟩
        simp only [if_pos hlt, if_pos (show x.length < 17592186044416 by omega)]
        rw [w64 (by omega) (by omega)]
        exact e
      · obtain ⟨r, v, g, l, e⟩ := ih (i + 1) _ _ (by omega) (h.step_ge ha hb hlt)
        refine ⟨r, v, g, l, ?_⟩
        simp only [if_neg hlt, if_pos (show x.length < 17592186044416 by omega)]
        exact e
    by_cases p2 : (i : Int) < (b.length : Int)
    · obtain ⟨r, v, g, l, e⟩ := key (b.getD i 0) rfl
      refine ⟨r, v, g, l, Ev.step (fun k => by rw [impl_natSub.l0]) ?_⟩
      simp only [if_pos (show (i : Int) < (a.length : Int) by omega), if_pos (show 0 ≤ (i : Int) by omega), if_pos p2, rd, Int.toNat_natCast, wsucc (show i ≤ 1099511627776 by omega)]
      exact e
    · obtain ⟨r, v, g, l, e⟩ := key 0 (getD_out p2).symm
      refine ⟨r, v, g, l, Ev.step (fun k => by rw [impl_natSub.l0]) ?_⟩
      simp only [if_pos (show (i : Int) < (a.length : Int) by omega), if_pos (show 0 ≤ (i : Int) by omega), if_neg p2, rd, Int.toNat_natCast, wsucc (show i ≤ 1099511627776 by omega)]
      rw [w64 (n := a.getD i 0 - c) (by omega) (by omega), Int.sub_zero, w64 (n := a.getD i 0 - c) (by omega) (by omega)] at e
      rw [w64 (n := a.getD i 0 - c) (by omega) (by omega)]
      exact e

theorem implSub_eq {a b : List Int} (ha : Dg a) (hb : Dg b) (nb : Nm b) (hv : val b ≤ val a) (h1 : a.length ≤ 1048576) :
    ∃ r, val r = val a - val b ∧ Dg r ∧ Nm r ∧ r.length ≤ a.length ∧ Ev (fun k => impl_natSub.f k a b) r := by
  obtain ⟨r, v, d, l, e⟩ := implSub_loop ha hb nb hv h1 a.length 0 [] 0 (by omega) (SubInv.start a b)
  have := trim_len r
  exact ⟨trim r, by rw [trim_val, v], trim_dg d, trim_nm r, by omega, e⟩

theorem tm {x m : Int} (h : 0 ≤ x) : Int.tmod x m = x % m := Int.tmod_eq_emod_of_nonneg h
theorem td {x m : Int} (h : 0 ≤ x) : Int.tdiv x m = x / m := Int.tdiv_eq_ediv_of_nonneg h

theorem implAdd_loop {a b : List Int} (ha : Dg a) (hb : Dg b) (n : Nat) (hn : n ≤ 1048577) (h1 : a.length + 1 ≤ n) (h2 : b.length + 1 ≤ n) : ∀ (d i : Nat) (x : List Int) (c : Int), n = i + d → AddInv a b x c i →
    ∃ r, val r = val a + val b ∧ Dg r ∧ r.length = n ∧ Ev (fun k => impl_natAdd.l0 k a b x c (n : Int) (i : Int)) (trim r) := by
  intro d
  induction d with
  | zero =>
    intro i x c hi h
    obtain ⟨rfl, hv⟩ := h.done ha hb (by omega) (by omega)
    refine ⟨x, hv, h.dg, by rw [h.len]; omega, Ev.step (fun k => by rw [impl_natAdd.l0]) ?_⟩
    simp only [if_neg (show ¬ (i : Int) < (n : Int) by omega)]
    exact Ev.bind (trimmed_eq x (by rw [h.len]; omega)) (Ev.now _)
  | succ d ih =>
    intro i x c hi h
    obtain ⟨r, hv, hd, hl, hr⟩ := ih (i + 1) _ _ (by omega) (h.step ha hb)
    refine ⟨r, hv, hd, hl, Ev.step (fun k => by rw [impl_natAdd.l0]) ?_⟩
    have b1 := ha.getD i
    have b2 := hb.getD i
    have c0 := h.c0
    have c1 := h.c1
    have len := h.len
    simp only [if_pos (show (i : Int) < (n : Int) by omega), if_pos (show 0 ≤ (i : Int) by omega), if_pos (show x.length < 17592186044416 by omega), rd, Int.toNat_natCast, wsucc (show i ≤ 1099511627776 by omega)]
    by_cases p1 : (i : Int) < (a.length : Int)
    · by_cases p2 : (i : Int) < (b.length : Int)
      · simp only [if_pos p1, if_pos p2]
        rw [w64 (n := c + a.getD i 0) (by omega) (by omega), w64 (n := c + a.getD i 0 + b.getD i 0) (by omega) (by omega), tm (by omega), td (by omega), w64 (by omega) (by omega)]
        exact hr
      · simp only [if_pos p1, if_neg p2]
        rw [getD_out p2, Int.add_zero] at hr
        rw [w64 (n := c + a.getD i 0) (by omega) (by omega), tm (by omega), td (by omega), w64 (by omega) (by omega)]
        exact hr
    · rw [getD_out p1, Int.add_zero] at hr
      by_cases p2 : (i : Int) < (b.length : Int)
      · simp only [if_neg p1, if_pos p2]
        rw [w64 (n := c + b.getD i 0) (by omega) (by omega), tm (by omega), td (by omega), w64 (by omega) (by omega)]
        exact hr
      · simp only [if_neg p1, if_neg p2]
        rw [getD_out p2, Int.add_zero] at hr
        rw [tm (by omega), td (by omega), w64 (by omega) (by omega)]
        exact hr

theorem implAdd_eq {a b : List Int} (ha : Dg a) (hb : Dg b) (h1 : a.length ≤ 1048576) (h2 : b.length ≤ 1048576) :
    ∃ r, val r = val a + val b ∧ Dg r ∧ Nm r ∧ r.length ≤ 1048577 ∧ (r.length ≤ a.length + 1 ∨ r.length ≤ b.length + 1) ∧ Ev (fun k => impl_natAdd.f k a b) r := by
  unfold impl_natAdd.f
  have e : wrap64 (mx (a.length : Int) (b.length : Int) + 1) = ((max a.length b.length + 1 : Nat) : Int) := by
    have : mx (a.length : Int) (b.length : Int) = ((max a.length b.length : Nat) : Int) := by
      unfold mx
      split <;> omega
    rw [this, w64 (by omega) (by omega)]
    omega
  obtain ⟨r, hv, hd, hl, hr⟩ := implAdd_loop ha hb (max a.length b.length + 1) (by omega) (by omega) (by omega) (max a.length b.length + 1) 0 [] 0 (by omega) (AddInv.start a b)
  have := trim_len r
  refine ⟨trim r, by rw [trim_val, hv], trim_dg hd, trim_nm r, by omega, by omega, ?_⟩
  rw [e]
  exact hr

theorem waddn {i j : Nat} (h : i ≤ 1048576) (h' : j ≤ 1048576) : wrap64 ((i : Int) + (j : Int)) = ((i + j : Nat) : Int) := by
  rw [w64 (by omega) (by omega)]
  omega

theorem mul_wrap {c o x y : Int} (c0 : 0 ≤ c) (c1 : c ≤ 65535) (o0 : 0 ≤ o) (o1 : o < 65536) (x0 : 0 ≤ x) (x1 : x < 65536) (y0 : 0 ≤ y) (y1 : y < 65536) :
    wrap64 (x * y) = x * y ∧ wrap64 (o + x * y) = o + x * y ∧ wrap64 (c + (o + x * y)) = c + (o + x * y) ∧ wrap64 (o + x * y + c) = c + (o + x * y) ∧
    Int.tmod (c + (o + x * y)) 65536 = (c + (o + x * y)) % 65536 ∧ wrap64 (Int.tdiv (c + (o + x * y)) 65536) = (c + (o + x * y)) / 65536 := by
  obtain ⟨h1, h2, h3, h4⟩ := mul_bound c0 c1 o0 o1 x0 x1 y0 y1
  generalize x * y = z at *
  refine ⟨w64 (by omega) (by omega), w64 (by omega) (by omega), w64 (by omega) (by omega), by rw [w64 (by omega) (by omega)]; omega, Int.tmod_eq_emod_of_nonneg h3, ?_⟩
  rw [Int.tdiv_eq_ediv_of_nonneg h3, w64 (by omega) (by omega)]

theorem implMul_row {a b : List Int} (ha : Dg a) (hb : Dg b) (h1 : a.length ≤ 1048576) (h2 : b.length ≤ 1048576) {i : Nat} (hi : i < a.length) :
    ∀ (d j : Nat) (o : List Int) (c : Int), b.length = j + d → MulIn a b o c i j → ∃ o', MulOut a b o' (i + 1) ∧ ∀ R, Ev (fun k => impl_natMul.l0 k b o' a (a.length : Int) ((i + 1 : Nat) : Int)) R →
      Ev (fun k => impl_natMul.l1 k b o (i : Int) (a.getD i 0) c a (a.length : Int) (i : Int) b (b.length : Int) (j : Int)) R := by
  intro d
  induction d with
  | zero =>
    intro j o c hj h
    obtain rfl : j = b.length := by omega
    have hlen := h.len
    refine ⟨_, h.leave hi, fun R hR => Ev.step (fun k => by rw [impl_natMul.l1]) ?_⟩
    simp only [if_neg (show ¬ (b.length : Int) < (b.length : Int) by omega), waddn (show i ≤ 1048576 by omega) (show b.length ≤ 1048576 by omega), if_pos (show 0 ≤ ((i + b.length : Nat) : Int) by omega),
      if_pos (show ((i + b.length : Nat) : Int) < (o.length : Int) by omega), Int.toNat_natCast, wsucc (show i ≤ 1099511627776 by omega)]
    exact hR
  | succ d ih =>
    intro j o c hj h
    have hlen := h.len
    have q1 : (j : Int) < (b.length : Int) := by omega
    have q2 : 0 ≤ (j : Int) := by omega
    have q3 : 0 ≤ ((i + j : Nat) : Int) := by omega
    have q4 : ((i + j : Nat) : Int) < (o.length : Int) := by omega
    have q5 : wrap64 ((i : Int) + (j : Int)) = ((i + j : Nat) : Int) := by exact waddn (by omega) (by omega)
    have q6 : wrap64 ((j : Int) + 1) = ((j + 1 : Nat) : Int) := by exact wsucc (by omega)
    have b1 := ha.getD i
    have b2 := hb.getD j
    have b3 := h.dg.getD (i + j)
    obtain ⟨w1, w2, w3, w4, w5, w6⟩ := mul_wrap h.c0 h.c1 b3.1 b3.2 b1.1 b1.2 b2.1 b2.2
    obtain ⟨o', ho', hr⟩ := ih (j + 1) _ _ (by omega) (h.step ha hb hi (by omega))
    refine ⟨o', ho', fun R hR => Ev.step (fun k => by rw [impl_natMul.l1]) ?_⟩
    have := hr R hR
    clear hr
    simp only [if_pos q1, if_pos q2, q5, if_pos q3, if_pos q4, rd, Int.toNat_natCast, q6, w1, w2, w3, w5, w6]
    exact this

theorem implMul_loop {a b : List Int} (ha : Dg a) (hb : Dg b) (h1 : a.length ≤ 1048576) (h2 : b.length ≤ 1048576) : ∀ (d i : Nat) (o : List Int), a.length = i + d → MulOut a b o i →
    ∃ r, val r = val a * val b ∧ Dg r ∧ r.length = a.length + b.length ∧ Ev (fun k => impl_natMul.l0 k b o a (a.length : Int) (i : Int)) (trim r) := by
  intro d
  induction d with
  | zero =>
    intro i o hi h
    obtain rfl : i = a.length := by omega
    have hlen := h.len
    refine ⟨o, h.done, h.dg, h.len, Ev.step (fun k => by rw [impl_natMul.l0]) ?_⟩
    simp only [if_neg (show ¬ (a.length : Int) < (a.length : Int) by omega)]
    exact Ev.bind (trimmed_eq o (by omega)) (Ev.now _)
  | succ d ih =>
    intro i o hi h
    obtain ⟨o', ho', hr⟩ := implMul_row ha hb h1 h2 (i := i) (by omega) b.length 0 o 0 (by omega) h.enter
    obtain ⟨r, v, g, l, e⟩ := ih (i + 1) o' (by omega) ho'
    refine ⟨r, v, g, l, Ev.step (fun k => by rw [impl_natMul.l0]) ?_⟩
    simp only [if_pos (show (i : Int) < (a.length : Int) by omega), if_pos (show 0 ≤ (i : Int) by omega), rd, Int.toNat_natCast]
    exact hr _ e

theorem implMul_eq {a b : List Int} (ha : Dg a) (hb : Dg b) (h1 : a.length ≤ 1048576) (h2 : b.length ≤ 1048576) :
    ∃ r, val r = val a * val b ∧ Dg r ∧ Nm r ∧ r.length ≤ a.length + b.length ∧ Ev (fun k => impl_natMul.f k a b) r := by
  obtain ⟨r, v, d, l, e⟩ := implMul_loop ha hb h1 h2 a.length 0 _ (by omega) (MulOut.start a b)
  have := trim_len r
  refine ⟨trim r, by rw [trim_val, v], trim_dg d, trim_nm r, by omega, ?_⟩
  unfold impl_natMul.f
  simp only [waddn h1 h2, if_pos (show 0 ≤ ((a.length + b.length : Nat) : Int) by omega), Int.toNat_natCast, if_pos (show a.length + b.length ≤ 35184372088832 by omega)]
  exact e

theorem mod_of_div {q r A m : Int} (h : q * m + r = A) (r0 : 0 ≤ r) (r1 : r < m) : r = A % m := by
  rw [← h, Int.add_comm, Int.add_mul_emod_self_right, Int.emod_eq_of_lt r0 r1]

theorem val_pos {m : List Int} (hm : Dg m) (nm : Nm m) (hne : m ≠ []) : 0 < val m := by
  have h1 := val_ge hm nm hne
  have h2 := pow_pos' (m.length - 1)
  omega

theorem natMod_eq {a m : List Int} (ha : Dg a) (na : Nm a) (hm : Dg m) (nm : Nm m) (hne : m ≠ []) (h1 : a.length ≤ 1000000) (h2 : m.length ≤ 1000000) :
    ∃ r, val r = val a % val m ∧ Dg r ∧ Nm r ∧ r.length ≤ m.length ∧ Ev (fun k => impl_natMod.f k a m) r := by
  obtain ⟨q, r, v, t, qd, qn, rd', rn, ql, rl, e⟩ := natDiv_eq ha hm na nm hne h1 h2
  have r0 := val_nonneg rd'
  refine ⟨r, mod_of_div v r0 t, rd', rn, len_le_of_val hm rd' rn (by omega), ?_⟩
  unfold impl_natMod.f
  exact Ev.bind e (Ev.now _)

theorem mulMod_eq {a b m : List Int} (ha : Dg a) (hb : Dg b) (hm : Dg m) (nm : Nm m) (hne : m ≠ []) (h1 : a.length ≤ 1000) (h2 : b.length ≤ 1000) (h3 : m.length ≤ 1000) :
    ∃ p r, val r = val a * val b % val m ∧ Dg r ∧ Nm r ∧ r.length ≤ m.length ∧ Ev (fun k => impl_natMul.f k a b) p ∧ Ev (fun k => impl_natMod.f k p m) r := by
  obtain ⟨p, pv, pd, pn, pl, e1⟩ := implMul_eq ha hb (by omega) (by omega)
  obtain ⟨r, v, rd', rn, rl, e2⟩ := natMod_eq pd pn hm nm hne (by omega) (by omega)
  exact ⟨p, r, by rw [v, pv], rd', rn, rl, e1, e2⟩

/-- The bits of digits. -/
def nbits (l : List Int) : Int := if l.length = 0 then 0 else 16 * ((l.length : Int) - 1) + ((bl (l.getD (l.length - 1) 0).toNat : Nat) : Int)

theorem implBits_eq {l : List Int} (h : Dg l) (hl : l.length ≤ 1048576) : Ev (fun k => impl_natBits.f k l) (nbits l) := by
  unfold impl_natBits.f nbits
  by_cases h0 : l.length = 0
  · simp only [h0, Int.natCast_zero, if_true]
    exact Ev.now _
  · have b := h.getD (l.length - 1)
    have bb := bl_le (n := (l.getD (l.length - 1) 0).toNat) (k := 16) (by omega)
    have e : wrap64 ((l.length : Int) - 1) = (l.length : Int) - 1 := w64 (by omega) (by omega)
    have q0 : 0 ≤ (l.length : Int) - 1 := by clear e; omega
    have q1 : (l.length : Int) - 1 < l.length := by clear e; omega
    have q2 : ¬ (l.length : Int) = 0 := by clear e; omega
    have q3 : ((l.length : Int) - 1).toNat = l.length - 1 := by clear e; omega
    simp only [if_neg h0, if_neg q2, e, if_pos q0, if_pos q1, rd, q3]
    clear e
    rw [u64w (by omega) (by omega)]
    refine Ev.bind (len_eq (by omega) (by omega)) ?_
    rw [w64 (n := 16 * ((l.length : Int) - 1)) (by omega) (by omega), w64 (by omega) (by omega)]
    exact Ev.now _

theorem and1 {x : Int} (h0 : 0 ≤ x) (h1 : x < 9223372036854775808) : Go.bits .and .i64 x 1 = x % 2 := by
  have := bits_mask .i64 63 (by decide) (fun n a b => by rw [IntKind.wrap_i64]; omega) 1 (by decide) x h0 (by simpa using h1)
  simpa using this

theorem mulmod (x y m : Int) : x % m * (y % m) % m = x * y % m := (Int.mul_emod x y m).symm

theorem mod_bd (x : Int) {m : Int} (h : 1 ≤ m) (h' : m ≤ 1073741824) : 0 ≤ x % m ∧ x % m < m := ⟨Int.emod_nonneg _ (by omega), Int.emod_lt_of_pos _ (by omega)⟩

theorem mul_small {x y : Int} (hx : 0 ≤ x) (hx' : x < 1073741824) (hy : 0 ≤ y) (hy' : y < 1073741824) : 0 ≤ x * y ∧ wrap64 (x * y) = x * y := by
  have h1 : 0 ≤ x * y := Int.mul_nonneg hx hy
  have h2 : x * y ≤ 1073741823 * 1073741823 := Int.mul_le_mul (by omega) (by omega) hy (by omega)
  exact ⟨h1, w64 (by omega) (by omega)⟩

theorem one_mod' {m : Int} (h : 1 ≤ m) : (1 : Int) % m = 1 % m := rfl

theorem bit_at {e : List Int} (he : Dg e) {j t : Nat} (hj : j < e.length) (ht : t < 16) : (val e / 2 ^ (16 * j + t)) % 2 = (e.getD j 0 / 2 ^ t) % 2 := by
  have hp : (2 : Int) ^ (16 * j + t) = 65536 ^ j * 2 ^ t := by
    rw [Int.pow_add, Int.pow_mul]
    rfl
  have h1 := val_split e (i := j) (by omega)
  have h2 := val_take_lt he (i := j) (by omega)
  have h3 := val_drop hj
  have h4 := pow_pos' j
  have h5 : val e / 65536 ^ j = val (e.drop j) := by
    rw [h1, Int.add_mul_ediv_left _ _ (by omega), Int.ediv_eq_zero_of_lt h2.1 h2.2]
    omega
  obtain ⟨u, hu⟩ : ∃ u, 16 - t = u + 1 := ⟨15 - t, by omega⟩
  have h6 : (65536 : Int) = 2 ^ t * (2 ^ u * 2) := by
    rw [← Int.pow_succ, ← Int.pow_add, show t + (u + 1) = 16 by omega]
    rfl
  have h7 : (0 : Int) < 2 ^ t := Int.pow_pos (by omega)
  rw [hp, ← Int.ediv_ediv_of_nonneg (Int.le_of_lt h4), h5, h3, h6, Int.mul_assoc, Int.add_mul_ediv_left _ _ (by omega)]
  have h8 : 2 ^ u * 2 * val (e.drop (j + 1)) = 2 * (2 ^ u * val (e.drop (j + 1))) := by grind
  rw [h8]
  omega

theorem nbits_nat {e : List Int} (he : Dg e) : ∃ N : Nat, nbits e = N ∧ N ≤ 16 * e.length ∧ (val e).toNat < 2 ^ N := by
  unfold nbits
  by_cases h0 : e.length = 0
  · obtain rfl : e = [] := List.length_eq_zero_iff.1 h0
    exact ⟨0, by simp, by simp, by simp [val]⟩
  · rw [if_neg h0]
    have hne : e ≠ [] := by rintro rfl; simp at h0
    have b := he.getD (e.length - 1)
    have h1 := bl_le (n := (e.getD (e.length - 1) 0).toNat) (k := 16) (by omega)
    have h2 := bl_lt (e.getD (e.length - 1) 0).toNat
    refine ⟨16 * (e.length - 1) + bl (e.getD (e.length - 1) 0).toNat, by omega, by omega, ?_⟩
    have h3 := val_last hne
    have h4 := val_take_lt he (i := e.length - 1) (by omega)
    have h5 := two_pow_int (bl (e.getD (e.length - 1) 0).toNat)
    have h6 : 65536 ^ (e.length - 1) * (e.getD (e.length - 1) 0 + 1) ≤ 65536 ^ (e.length - 1) * (2 : Int) ^ bl (e.getD (e.length - 1) 0).toNat := Int.mul_le_mul_of_nonneg_left (by omega) (Int.le_of_lt (pow_pos' _))
    have h7 : 65536 ^ (e.length - 1) * (e.getD (e.length - 1) 0 + 1) = 65536 ^ (e.length - 1) * e.getD (e.length - 1) 0 + 65536 ^ (e.length - 1) := by grind
    have h8 : (65536 : Int) ^ (e.length - 1) = 2 ^ (16 * (e.length - 1)) := by rw [Int.pow_mul]; rfl
    have h9 := val_nonneg he
    have h10 : val e < (2 : Int) ^ (16 * (e.length - 1) + bl (e.getD (e.length - 1) 0).toNat) := by
      rw [Int.pow_add, ← h8]
      omega
    rw [← two_pow_int] at h10
    omega

/-- The bit that both look at. -/
theorem bit_eq {e : List Int} (he : Dg e) {n : Nat} (hn : n / 16 < e.length) (hl : e.length ≤ 1048576) :
    wrap64 (Int.tdiv (n : Int) 16) = ((n / 16 : Nat) : Int) ∧ Int.tmod (n : Int) 16 = ((n % 16 : Nat) : Int) ∧
      Go.bits .and .i64 (shr .i64 (e.getD (n / 16) 0) ((n % 16 : Nat) : Int)) 1 = (((val e).toNat / 2 ^ n : Nat) : Int) % 2 := by
  have b := he.getD (n / 16)
  have hb := bit_at he hn (show n % 16 < 16 by omega)
  rw [show 16 * (n / 16) + n % 16 = n by omega] at hb
  have hv := val_nonneg he
  have e1 : (((val e).toNat / 2 ^ n : Nat) : Int) = val e / 2 ^ n := by
    rw [Int.natCast_ediv, two_pow_int, Int.toNat_of_nonneg hv]
  refine ⟨?_, ?_, ?_⟩
  · rw [Int.tdiv_eq_ediv_of_nonneg (by omega), w64 (by omega) (by omega)]
    omega
  · rw [Int.tmod_eq_emod_of_nonneg (by omega)]
    omega
  · have sh : shr .i64 (e.getD (n / 16) 0) ((n % 16 : Nat) : Int) = e.getD (n / 16) 0 / 2 ^ (n % 16) := by
      unfold shr
      rw [Int.toNat_natCast, Nat.min_eq_left (by show n % 16 ≤ 64; omega)]
    have h7 : (0 : Int) < 2 ^ (n % 16) := Int.pow_pos (by omega)
    have h8 : 0 ≤ e.getD (n / 16) 0 / 2 ^ (n % 16) := Int.ediv_nonneg b.1 (by omega)
    have h9 : e.getD (n / 16) 0 / 2 ^ (n % 16) ≤ e.getD (n / 16) 0 := Int.ediv_le_self _ b.1
    rw [sh, and1 h8 (by omega), e1, hb]

/-- What the powers are: squares, and once more where the bit is set. -/
theorem pow_zero_bit {a m : Int} {E n : Nat} (h : ((E / 2 ^ n : Nat) : Int) % 2 ≠ 1) : (a ^ (E / 2 ^ (n + 1)) % m) * (a ^ (E / 2 ^ (n + 1)) % m) % m = a ^ (E / 2 ^ n) % m := by
  have st := div_step E n
  rw [show (E / 2 ^ n) % 2 = 0 by omega, Nat.add_zero] at st
  rw [mulmod, ← Int.pow_add, ← Nat.two_mul, ← st]

theorem pow_one_bit {a m : Int} {E n : Nat} (h : ((E / 2 ^ n : Nat) : Int) % 2 = 1) : (a ^ (E / 2 ^ (n + 1)) % m) * (a ^ (E / 2 ^ (n + 1)) % m) % m * (a % m) % m = a ^ (E / 2 ^ n) % m := by
  have st := div_step E n
  rw [show (E / 2 ^ n) % 2 = 1 by omega] at st
  have h2 := mulmod (a ^ (E / 2 ^ (n + 1))) (a ^ (E / 2 ^ (n + 1))) m
  rw [h2, mulmod, ← Int.pow_add, ← Nat.two_mul, st, Int.pow_succ]

theorem modPow_loop {e m base : List Int} (he : Dg e) (hel : e.length ≤ 1000) (hm : Dg m) (nm : Nm m) (hne : m ≠ []) (hml : m.length ≤ 500) (hb : Dg base) (hbl : base.length ≤ m.length) {a : Int} (hbv : val base = a % val m) :
    ∀ (n : Nat) (out : List Int), n ≤ 16 * e.length → Dg out → Nm out → out.length ≤ m.length → val out = a ^ ((val e).toNat / 2 ^ n) % val m →
      ∃ r, val r = a ^ (val e).toNat % val m ∧ Dg r ∧ Nm r ∧ r.length ≤ m.length ∧ Ev (fun k => impl_modPow.l0 k e m base out ((n : Int) - 1)) r := by
  intro n
  induction n with
  | zero =>
    intro out _ od on ol ov
    rw [Nat.pow_zero, Nat.div_one] at ov
    refine ⟨out, ov, od, on, ol, Ev.step (fun k => by rw [impl_modPow.l0]) ?_⟩
    simp only [if_neg (show ¬ ((0 : Nat) : Int) - 1 ≥ 0 by omega)]
    exact Ev.now _
  | succ n ih =>
    intro out hn od on ol ov
    obtain ⟨b1, b2, b3⟩ := bit_eq he (n := n) (by omega) (by omega)
    obtain ⟨p, s, sv, sd, sn, sl, e1, e2⟩ := mulMod_eq od od hm nm hne (by clear b1; omega) (by clear b1; omega) (by clear b1; omega)
    rw [ov] at sv
    have q0 : ((n + 1 : Nat) : Int) - 1 = (n : Int) := by clear b1; omega
    have q1 : (n : Int) ≥ 0 := by clear b1; omega
    have q2 : 0 ≤ ((n / 16 : Nat) : Int) := by clear b1; omega
    have q3 : ((n / 16 : Nat) : Int) < (e.length : Int) := by clear b1; omega
    have q4 : 0 ≤ ((n % 16 : Nat) : Int) := by clear b1; omega
    have q5 : wrap64 ((n : Int) - 1) = (n : Int) - 1 := w64 (by clear b1; omega) (by clear b1; omega)
    by_cases hbit : (((val e).toNat / 2 ^ n : Nat) : Int) % 2 = 1
    · obtain ⟨p2, t, tv, td', tn, tl, e3, e4⟩ := mulMod_eq sd hb hm nm hne (by clear b1 q5; omega) (by clear b1 q5; omega) (by clear b1 q5; omega)
      rw [sv, hbv, pow_one_bit hbit] at tv
      obtain ⟨r, rv, rd', rn, rl, er⟩ := ih t (by clear b1 q5; omega) td' tn tl tv
      refine ⟨r, rv, rd', rn, rl, Ev.step (fun k => by rw [impl_modPow.l0]) ?_⟩
      simp only [q0, if_pos q1]
      refine Ev.bind e1 (Ev.bind e2 ?_)
      simp only [b1, b2, if_pos q2, if_pos q3, if_pos q4, rd, Int.toNat_natCast, b3, if_pos hbit, q5]
      exact Ev.bind e3 (Ev.bind e4 er)
    · rw [pow_zero_bit hbit] at sv
      obtain ⟨r, rv, rd', rn, rl, er⟩ := ih s (by clear b1 q5; omega) sd sn sl sv
      refine ⟨r, rv, rd', rn, rl, Ev.step (fun k => by rw [impl_modPow.l0]) ?_⟩
      simp only [q0, if_pos q1]
      refine Ev.bind e1 (Ev.bind e2 ?_)
      simp only [b1, b2, if_pos q2, if_pos q3, if_pos q4, rd, Int.toNat_natCast, b3, if_neg hbit, q5]
      exact er

theorem one_list : Dg [1] ∧ Nm [1] ∧ val [1] = 1 := by
  refine ⟨fun d hd => ?_, by simp [Nm], by simp [val]⟩
  simp at hd
  omega

theorem modPow_eq {a e m : List Int} (ha : Dg a) (na : Nm a) (hal : a.length ≤ 1000) (he : Dg e) (hel : e.length ≤ 1000) (hm : Dg m) (nm : Nm m) (hne : m ≠ []) (hml : m.length ≤ 500) :
    ∃ r, val r = val a ^ (val e).toNat % val m ∧ Dg r ∧ Nm r ∧ r.length ≤ m.length ∧ Ev (fun k => impl_modPow.f k a e m) r := by
  obtain ⟨base, bv, bd, bn, bl', e1⟩ := natMod_eq ha na hm nm hne (by omega) (by omega)
  obtain ⟨o1, o2, o3⟩ := one_list
  obtain ⟨out, ov, od, on, ol, e2⟩ := natMod_eq o1 o2 hm nm hne (by simp) (by omega)
  obtain ⟨N, hN, hN2, hN3⟩ := nbits_nat he
  have e3 := implBits_eq he (by omega)
  rw [hN] at e3
  obtain ⟨r, rv, rd', rn, rl, e4⟩ := modPow_loop he hel hm nm hne hml bd bl' bv N out hN2 od on ol (by rw [Nat.div_eq_of_lt hN3, Int.pow_zero, ov, o3])
  refine ⟨r, rv, rd', rn, rl, ?_⟩
  unfold impl_modPow.f
  refine Ev.bind e1 (Ev.bind e2 (Ev.bind e3 ?_))
  have w : wrap64 ((N : Int) - 1) = (N : Int) - 1 := w64 (by omega) (by omega)
  simp only [w]
  exact e4

theorem isOne_eq {l : List Int} (hl : Dg l) (nl : Nm l) : impl_isOne.f l = some (decide (val l = 1)) := by
  unfold impl_isOne.f
  by_cases h : (l.length : Int) = 1
  · obtain ⟨d, rfl⟩ : ∃ d, l = [d] := List.length_eq_one_iff.1 (by omega)
    simp [rd, val]
    cases hd : decide (d = 1) <;> simp_all
  · rw [if_neg h]
    have : val l ≠ 1 := by
      intro hv
      obtain ⟨o1, o2, o3⟩ := one_list
      have := val_inj hl o1 nl o2 (by rw [hv, o3])
      subst this
      simp at h
    simp [this]

theorem nil_of_val {l : List Int} (hl : Dg l) (nl : Nm l) (h : val l = 0) : l = [] := val_zero hl nl h

theorem implModInv_loop {m : List Int} (hm : Dg m) (nm : Nm m) (hne : m ≠ []) (hml : m.length ≤ 64) (a : Int) (hm2 : 2 ≤ val m) : ∀ (n : Nat) (r s x y : List Int), (val s).toNat ≤ n → Dg r → Nm r → Dg s → Nm s → Dg x → Nm x → Dg y → Nm y →
    MoInv a (val m) (val r) (val s) (val x) (val y) → ∃ z b, Dg z ∧ Nm z ∧ InvIs a (val m) (val z) b ∧ z.length ≤ 64 ∧ Ev (fun k => impl_ModInv.l0 k m r s x y) (z, b) := by
  intro n
  induction n with
  | zero =>
    intro r s x y hn hr nr hs ns hx nx hy ny h
    have hs0 := h.s0
    obtain rfl : s = [] := nil_of_val hs ns (by omega)
    have hone := isOne_eq hr nr
    have xl : x.length ≤ m.length := len_le_of_val hm hx nx (by have := h.xm; omega)
    have hv : val ([] : List Int) = 0 := rfl
    rw [hv] at h
    by_cases h1 : val r = 1
    · refine ⟨x, true, hx, nx, h.one hm2 h1, by omega, Ev.step (fun k => by rw [impl_ModInv.l0]) ?_⟩
      simp only [List.length_nil, if_neg (show ¬ ((0 : Nat) : Int) > 0 by omega), hone, Option.bind_some, h1, decide_true, if_true]
      exact Ev.now _
    · refine ⟨[], false, Dg.nil, by simp [Nm], h.more h1, by simp, Ev.step (fun k => by rw [impl_ModInv.l0]) ?_⟩
      simp only [List.length_nil, if_neg (show ¬ ((0 : Nat) : Int) > 0 by omega), hone, Option.bind_some, h1, decide_false]
      simpa using Ev.now (([] : List Int), false)
  | succ n ih =>
    intro r s x y hn hr nr hs ns hx nx hy ny h
    by_cases hs0 : val s = 0
    · exact ih r s x y (by omega) hr nr hs ns hx nx hy ny h
    · have hsn : s ≠ [] := by rintro rfl; exact hs0 rfl
      have hp : 0 < val s := by have := h.s0; omega
      have rl : r.length ≤ m.length := len_le_of_val hm hr nr h.rm
      have sl : s.length ≤ m.length := len_le_of_val hm hs ns (by have := h.lt; have := h.rm; omega)
      have xl : x.length ≤ m.length := len_le_of_val hm hx nx (by have := h.xm; omega)
      have yl : y.length ≤ m.length := len_le_of_val hm hy ny (by have := h.ym; omega)
      obtain ⟨q, w, qv, wlt, qd, qn, wd, wn, ql, wl, e1⟩ := natDiv_eq hr hs nr ns hsn (by omega) (by omega)
      have w0 := val_nonneg wd
      have wv : val w = val r % val s := mod_of_div qv w0 wlt
      have qv' : val q = val r / val s := by
        have h2 := Int.emod_add_ediv_mul (val r) (val s)
        rw [← wv] at h2
        exact Int.eq_of_mul_eq_mul_right (by omega) (show val q * val s = val r / val s * val s by omega)
      obtain ⟨p, pv, pd, pn, pl, e2⟩ := implMul_eq qd hy (by omega) (by omega)
      obtain ⟨t, tv, td', tn, tl, e3⟩ := natMod_eq pd pn hm nm hne (by omega) (by omega)
      obtain ⟨u, uv, ud, un, ul, ul2, e4⟩ := implAdd_eq hx hm (by omega) (by omega)
      have tlt : val t < val m := by rw [tv]; exact Int.emod_lt_of_pos _ (by omega)
      have x0 := val_nonneg hx
      obtain ⟨v, vv, vd, vn, vl, e5⟩ := implSub_eq ud td' tn (by omega) (by omega)
      obtain ⟨z, zv, zd, zn, zl, e6⟩ := natMod_eq vd vn hm nm hne (by omega) (by omega)
      have st := h.step hp (q := val q) (t := val t) (z := val z) qv' (by rw [tv, pv]) (by rw [zv, vv, uv]; congr 1; omega)
      rw [← wv] at st
      obtain ⟨f, b, f1, f2, f3, f4, f5⟩ := ih s w y z (by omega) hs ns wd wn hy ny zd zn st
      refine ⟨f, b, f1, f2, f3, f4, Ev.step (fun k => by rw [impl_ModInv.l0]) ?_⟩
      have hsl := List.length_pos_iff.2 hsn
      simp only [if_pos (show (s.length : Int) > 0 by omega)]
      exact Ev.bind e1 (Ev.bind e2 (Ev.bind e3 (Ev.bind e4 (Ev.bind e5 (Ev.bind e6 f5)))))

theorem implModInv_eq {a m : List Int} (ka : natOk a = true) (km : natOk m = true) (hm2 : 2 ≤ val m) :
    ∃ z b, Dg z ∧ Nm z ∧ InvIs (val a) (val m) (val z) b ∧ z.length ≤ 64 ∧ Ev (fun k => impl_ModInv.f k a m) (z, b) := by
  obtain ⟨la, da, na⟩ := (natOk_iff a).1 ka
  obtain ⟨lm, dm, nm⟩ := (natOk_iff m).1 km
  have hne : m ≠ [] := by rintro rfl; simp [val] at hm2
  have ar := arOf (a := a) (b := m) (by omega) (by omega)
  obtain ⟨o1, o2, o3⟩ := one_list
  obtain ⟨s, sv, sd, sn, sl, e1⟩ := natMod_eq da na dm nm hne (by omega) (by omega)
  obtain ⟨z, b, f1, f2, f3, f4, f5⟩ := implModInv_loop dm nm hne lm (val a) hm2 (val s).toNat m s [] [1] (Nat.le_refl _) dm nm sd sn Dg.nil (by simp [Nm]) o1 o2 (by rw [sv, o3]; exact MoInv.start hm2)
  refine ⟨z, b, f1, f2, f3, f4, ?_⟩
  unfold impl_ModInv.f
  refine Ev.bind ar ?_
  have hl := List.length_pos_iff.2 hne
  have h1 : ¬ val m = 1 := by omega
  simp only [List.all_cons, List.all_nil, ka, km, Bool.and_true, if_true, if_neg (show ¬ (m.length : Int) = 0 by omega), isOne_eq dm nm, Option.bind_some, h1, decide_false]
  refine Ev.step (fun k => by rw [impl_ModInv.j0]) ?_
  simp only [Bool.false_eq_true, if_false]
  exact Ev.bind e1 f5

theorem ModMul_ok {a b m : List Int} (ka : natOk a = true) (kb : natOk b = true) (km : natOk m = true) (hne : m ≠ []) :
    ∃ r, natOk r = true ∧ val r = val a * val b % val m ∧ Ev (fun k => impl_ModMul.f k a b m) (r, true) := by
  obtain ⟨la, da, na⟩ := (natOk_iff a).1 ka
  obtain ⟨lb, db, nb⟩ := (natOk_iff b).1 kb
  obtain ⟨lm, dm, nm⟩ := (natOk_iff m).1 km
  have ar := arOf3 (a := a) (b := b) (c := m) (by omega) (by omega) (by omega)
  rw [ka, kb, km] at ar
  obtain ⟨p, r, v, d, n, l, e1, e2⟩ := mulMod_eq da db dm nm hne (by omega) (by omega) (by omega)
  refine ⟨r, (natOk_iff r).2 ⟨by omega, d, n⟩, v, ?_⟩
  unfold impl_ModMul.f
  refine Ev.bind ar ?_
  have hl := List.length_pos_iff.2 hne
  have : ((m.length : Int) == 0) = false := by
    simp only [beq_eq_false_iff_ne]
    omega
  simp only [Bool.and_true, if_true, this]
  refine Ev.step (fun k => by rw [impl_ModMul.j0]) ?_
  simp only [Bool.false_eq_true, if_false]
  exact Ev.bind e1 (Ev.bind e2 (Ev.now _))

theorem ModPow_ok {a e m : List Int} (ka : natOk a = true) (ke : natOk e = true) (km : natOk m = true) (hne : m ≠ []) :
    ∃ r, natOk r = true ∧ val r = val a ^ (val e).toNat % val m ∧ Ev (fun k => impl_ModPow.f k a e m) (r, true) := by
  obtain ⟨la, da, na⟩ := (natOk_iff a).1 ka
  obtain ⟨le, de, ne⟩ := (natOk_iff e).1 ke
  obtain ⟨lm, dm, nm⟩ := (natOk_iff m).1 km
  have ar := arOf3 (a := a) (b := e) (c := m) (by omega) (by omega) (by omega)
  rw [ka, ke, km] at ar
  obtain ⟨r, v, d, n, l, e1⟩ := modPow_eq da na (by omega) de (by omega) dm nm hne (by omega)
  refine ⟨r, (natOk_iff r).2 ⟨by omega, d, n⟩, v, ?_⟩
  unfold impl_ModPow.f
  refine Ev.bind ar ?_
  have hl := List.length_pos_iff.2 hne
  simp only [Bool.and_true, if_true, if_neg (show ¬ (m.length : Int) = 0 by omega)]
  exact Ev.bind e1 (Ev.now _)

theorem ModInv_ok {a m : List Int} (ka : natOk a = true) (km : natOk m = true) (hne : m ≠ []) :
    ∃ z b, natOk z = true ∧ (b = true → 2 ≤ val m ∧ InvIs (val a) (val m) (val z) b) ∧ (2 ≤ val m → InvIs (val a) (val m) (val z) b) ∧ Ev (fun k => impl_ModInv.f k a m) (z, b) := by
  obtain ⟨la, da, na⟩ := (natOk_iff a).1 ka
  obtain ⟨lm, dm, nm⟩ := (natOk_iff m).1 km
  by_cases h : 2 ≤ val m
  · obtain ⟨z, b, f1, f2, f3, f4, f5⟩ := implModInv_eq ka km h
    exact ⟨z, b, (natOk_iff z).2 ⟨f4, f1, f2⟩, fun _ => ⟨h, f3⟩, fun _ => f3, f5⟩
  · have hv : val m = 1 := by
      have := val_pos dm nm hne
      omega
    have ar := arOf (a := a) (b := m) (by omega) (by omega)
    refine ⟨[], false, by decide, by simp, fun h' => absurd h' h, ?_⟩
    unfold impl_ModInv.f
    refine Ev.bind ar ?_
    have hl := List.length_pos_iff.2 hne
    simp only [List.all_cons, List.all_nil, ka, km, Bool.and_true, if_true, if_neg (show ¬ (m.length : Int) = 0 by omega), isOne_eq dm nm, Option.bind_some, hv, decide_true]
    refine Ev.step (fun k => by rw [impl_ModInv.j0]) ?_
    simp only [if_true]
    exact Ev.now _

theorem sameInts_loop (l : List Int) (hl : l.length ≤ 1099511627776) : ∀ (d : Nat) (i : Int), 0 ≤ i → (l.length : Int) - i = d → Ev (fun k => laws_sameInts.l0 k l l i) true := by
  intro d
  induction d with
  | zero =>
    intro i h0 hd
    refine Ev.step (fun k => by rw [laws_sameInts.l0]) ?_
    simp only [if_neg (show ¬ i < (l.length : Int) by omega)]
    exact Ev.now _
  | succ d ih =>
    intro i h0 hd
    refine Ev.step (fun k => by rw [laws_sameInts.l0]) ?_
    simp only [if_pos (show i < (l.length : Int) by omega), if_pos h0, if_true]
    rw [w64 (n := i + 1) (by omega) (by omega)]
    exact ih (i + 1) (by omega) (by omega)

theorem sameInts_eq (l : List Int) (hl : l.length ≤ 1099511627776) : Ev (fun k => laws_sameInts.f k l l) true := by
  unfold laws_sameInts.f
  simp only [if_true]
  exact sameInts_loop l hl l.length 0 (by omega) (by omega)

theorem at_some {l : List Int} (hw : ∀ x ∈ l, 0 ≤ x ∧ x ≤ 255) (hl : l.length ≤ 1048576) {i : Int} (h0 : 0 ≤ i) (h1 : i ≤ 1000) : ∃ v, laws_at.f l i = some v ∧ 0 ≤ v ∧ v ≤ 255 := by
  unfold laws_at.f
  by_cases h : i < (l.length : Int)
  · rw [if_pos h, if_pos h0]
    have hm := hw (rd l i) (by
      unfold rd
      rw [List.getD_eq_getElem?_getD, List.getElem?_eq_getElem (by omega), Option.getD_some]
      exact List.getElem_mem _)
    exact ⟨_, rfl, by rw [w64 (by omega) (by omega)]; omega, by rw [w64 (by omega) (by omega)]; omega⟩
  · rw [if_neg h]
    refine ⟨_, rfl, ?_⟩
    rw [w64 (n := i * 7) (by omega) (by omega), w64 (by omega) (by omega), Int.tmod_eq_emod_of_nonneg (by omega)]
    omega

theorem wfu8 {l : List Int} (h : ∀ x ∈ l, (Lit.int .u8 x).wf = true) : ∀ x ∈ l, 0 ≤ x ∧ x ≤ 255 := by
  intro x hx
  have := h x hx
  simpa [Lit.wf, IntKind.min, IntKind.max, IntKind.signed, IntKind.bits] using this

theorem and255 (x : Int) : 0 ≤ Go.bits .and .i64 x 255 ∧ Go.bits .and .i64 x 255 ≤ 255 := by
  unfold Go.bits
  simp only [BitVec.toNat_and]
  have h : (BitVec.ofInt IntKind.i64.bits 255).toNat = 255 := by decide
  rw [h]
  have h2 : (BitVec.ofInt IntKind.i64.bits x).toNat &&& 255 ≤ 255 := Nat.and_le_right
  generalize (BitVec.ofInt IntKind.i64.bits x).toNat &&& 255 = n at *
  rw [IntKind.wrap_i64]
  omega

/-- The cursor stands in its bytes. -/
def Cur (b : List Int) (i : Int) : Prop := 0 ≤ i ∧ i ≤ b.length ∧ b.length ≤ 1099511627776

theorem byte_some {b : List Int} {i : Int} (h : Int) (c : Cur b i) : ∃ v i' h', spec_l1Byte.f b i h = some (v, i', h') ∧ 0 ≤ v ∧ v ≤ 255 ∧ Cur b i' := by
  unfold spec_l1Byte.f
  obtain ⟨c0, c1, c2⟩ := c
  by_cases hi : i < (b.length : Int)
  · rw [if_pos hi, if_pos c0]
    refine ⟨_, _, _, rfl, (and255 _).1, (and255 _).2, ?_⟩
    rw [w64 (by omega) (by omega)]
    exact ⟨by omega, by omega, c2⟩
  · rw [if_neg hi]
    exact ⟨_, _, _, rfl, (and255 _).1, (and255 _).2, c0, c1, c2⟩

theorem below_some {b : List Int} {i : Int} (h : Int) (c : Cur b i) {n : Int} (hn : 0 < n) (hn' : n ≤ 4611686018427387904) : ∃ v i' h', spec_l1Below.f b i h n = some (v, i', h') ∧ 0 ≤ v ∧ v < n ∧ Cur b i' := by
  unfold spec_l1Below.f
  rw [if_neg (by omega)]
  by_cases h1 : n ≤ 256
  · rw [if_pos h1]
    obtain ⟨v, i', h', e, v0, v1, c'⟩ := byte_some h c
    rw [e]
    simp only [Option.bind_some, if_neg (show ¬ n = 0 by omega), Int.tmod_eq_emod_of_nonneg v0]
    exact ⟨_, _, _, rfl, Int.emod_nonneg _ (by omega), Int.emod_lt_of_pos _ hn, c'⟩
  · rw [if_neg h1]
    obtain ⟨v, i', h', e, v0, v1, c'⟩ := byte_some h c
    obtain ⟨w, j, g, f, w0, w1, d⟩ := byte_some h' c'
    obtain ⟨x, j', g', f', x0, x1, d'⟩ := byte_some g d
    obtain ⟨y, j2, g2, f2, y0, y1, d2⟩ := byte_some g' d'
    rw [e]
    simp only [Option.bind_some, f, f', f2, if_neg (show ¬ n = 0 by omega)]
    rw [w64 (n := v * 16777216) (by omega) (by omega), w64 (n := w * 65536) (by omega) (by omega), w64 (n := v * 16777216 + w * 65536) (by omega) (by omega), w64 (n := x * 256) (by omega) (by omega), w64 (n := v * 16777216 + w * 65536 + x * 256) (by omega) (by omega), w64 (by omega) (by omega), Int.tmod_eq_emod_of_nonneg (by omega)]
    exact ⟨_, _, _, rfl, Int.emod_nonneg _ (by omega), Int.emod_lt_of_pos _ hn, d2⟩

theorem new_loop (l : List Int) (hl : l.length ≤ 1099511627776) : ∀ (d : Nat) (h i : Int), 0 ≤ i → (l.length : Int) - i = d → ∃ h', Ev (fun k => spec_l1New.l0 k l h i) (l, 0, h') := by
  intro d
  induction d with
  | zero =>
    intro h i h0 hd
    refine ⟨h, Ev.step (fun k => by rw [spec_l1New.l0]) ?_⟩
    simp only [if_neg (show ¬ i < (l.length : Int) by omega)]
    exact Ev.now _
  | succ d ih =>
    intro h i h0 hd
    by_cases h1 : i < 4000
    · obtain ⟨h', e⟩ := ih (Go.bits .and .i64 (wrap64 ((wrap64 ((wrap64 (h * 131)) + (wrap64 (rd l i)))) + 7)) 1073741823) (i + 1) (by omega) (by omega)
      refine ⟨h', Ev.step (fun k => by rw [spec_l1New.l0]) ?_⟩
      simp only [if_pos (show i < (l.length : Int) by omega), if_pos h1, if_pos h0]
      rw [w64 (n := i + 1) (by omega) (by omega)]
      exact e
    · refine ⟨h, Ev.step (fun k => by rw [spec_l1New.l0]) ?_⟩
      simp only [if_pos (show i < (l.length : Int) by omega), if_neg h1]
      exact Ev.now _

theorem new_some (l : List Int) (hl : l.length ≤ 1099511627776) : ∃ h', Ev (fun k => spec_l1New.f k l) (l, 0, h') ∧ Cur l 0 := by
  obtain ⟨h', e⟩ := new_loop l hl l.length (wrap64 (148148 + (l.length : Int))) 0 (by omega) (by omega)
  exact ⟨h', e, by unfold Cur; omega⟩

theorem pick_some {b : List Int} {i : Int} (h : Int) (c : Cur b i) {l : List Int} (hl : 0 < l.length) (hl' : l.length ≤ 1000) : ∃ v i' h', spec_l1PickInt.f b i h l = some (v, i', h') ∧ v ∈ l ∧ Cur b i' := by
  unfold spec_l1PickInt.f
  obtain ⟨v, i', h', e, v0, v1, c'⟩ := below_some h c (n := (l.length : Int)) (by omega) (by omega)
  rw [e]
  simp only [Option.bind_some, if_pos v0, if_pos v1]
  refine ⟨_, _, _, rfl, ?_, c'⟩
  unfold rd
  rw [List.getD_eq_getElem?_getD, List.getElem?_eq_getElem (by omega), Option.getD_some]
  exact List.getElem_mem _

theorem once_some {b : List Int} {i : Int} (h : Int) (c : Cur b i) {n : Int} (hn : 0 < n) (hn' : n ≤ 1000) : ∃ v i' h', spec_l1Once.f b i h n = some (v, i', h') ∧ Cur b i' := by
  unfold spec_l1Once.f
  obtain ⟨v, i', h', e, v0, v1, c'⟩ := below_some h c hn (by omega)
  rw [e]
  exact ⟨_, _, _, rfl, c'⟩

theorem drawNat_loop (b : List Int) : ∀ (m : Nat) (n : Int) (x : List Int) (i h : Int), n.toNat ≤ m → n ≤ 1000 → x.length + n.toNat ≤ 1000 → Cur b i →
    ∃ l i' h', Ev (fun k => spec_l1DrawNat.l0 k x n b i h) (l, i', h') ∧ Cur b i' ∧ l.length ≤ x.length + n.toNat := by
  intro m
  induction m with
  | zero =>
    intro n x i h hn hn' hx c
    have := trim_len x
    refine ⟨trim x, i, h, Ev.step (fun k => by rw [spec_l1DrawNat.l0]) ?_, c, by omega⟩
    simp only [if_neg (show ¬ n > 0 by omega)]
    exact Ev.bind (norm_eq x (by omega)) (Ev.now _)
  | succ m ih =>
    intro n x i h hn hn' hx c
    by_cases h0 : n > 0
    · obtain ⟨v, i1, h1, e1, _, _, c1⟩ := below_some h c (n := 65536) (by omega) (by omega)
      obtain ⟨o, i2, h2, e2, c2⟩ := once_some h1 c1 (n := 6) (by omega) (by omega)
      cases o with
      | true =>
        obtain ⟨w, i3, h3, e3, _, c3⟩ := pick_some h2 c2 (l := [0, 1, 65535, 32768]) (by simp) (by simp)
        obtain ⟨l, i', h', e, c', hl⟩ := ih (n - 1) (x ++ [w]) i3 h3 (by omega) (by omega) (by simp; omega) c3
        refine ⟨l, i', h', Ev.step (fun k => by rw [spec_l1DrawNat.l0]) ?_, c', by simp at hl; omega⟩
        simp only [if_pos h0, e1, e2, e3, Option.bind_some, if_true, if_pos (show x.length < 17592186044416 by omega)]
        rw [w64 (by omega) (by omega)]
        exact e
      | false =>
        obtain ⟨l, i', h', e, c', hl⟩ := ih (n - 1) (x ++ [v]) i2 h2 (by omega) (by omega) (by simp; omega) c2
        refine ⟨l, i', h', Ev.step (fun k => by rw [spec_l1DrawNat.l0]) ?_, c', by simp at hl; omega⟩
        simp only [if_pos h0, e1, e2, Option.bind_some, Bool.false_eq_true, if_false, if_pos (show x.length < 17592186044416 by omega)]
        rw [w64 (by omega) (by omega)]
        exact e
    · exact ih n x i h (by omega) hn' hx c

theorem drawNat_some {b : List Int} {i : Int} (h : Int) (c : Cur b i) {n : Int} (hn : 0 < n) (hn' : n ≤ 500) : ∃ l i' h', Ev (fun k => spec_l1DrawNat.f k b i h n) (l, i', h') ∧ Cur b i' ∧ l.length < n := by
  obtain ⟨v, i1, h1, e1, v0, v1, c1⟩ := below_some h c hn (by omega)
  obtain ⟨l, i', h', e, c', hl⟩ := drawNat_loop b v.toNat v [] i1 h1 (Nat.le_refl _) (by omega) (by simp; omega) c1
  refine ⟨l, i', h', ?_, c', by simp at hl; omega⟩
  unfold spec_l1DrawNat.f
  simp only [e1, Option.bind_some]
  exact e

theorem drawAny_loop (b : List Int) : ∀ (m : Nat) (n : Int) (x : List Int) (i h : Int), n.toNat ≤ m → n ≤ 1000 → x.length + n.toNat ≤ 1000 →
    ∃ l, Ev (fun k => spec_l1DrawAny.l0 k x n b i h) (l, i, h) ∧ l.length ≤ x.length + n.toNat := by
  intro m
  induction m with
  | zero =>
    intro n x i h hn hn' hx
    refine ⟨x, Ev.step (fun k => by rw [spec_l1DrawAny.l0]) ?_, by omega⟩
    simp only [if_neg (show ¬ n > 0 by omega)]
    exact Ev.now _
  | succ m ih =>
    intro n x i h hn hn' hx
    by_cases h0 : n > 0
    · obtain ⟨l, e, hl⟩ := ih (n - 1) (x ++ [65535]) i h (by omega) (by omega) (by simp; omega)
      refine ⟨l, Ev.step (fun k => by rw [spec_l1DrawAny.l0]) ?_, by simp at hl; omega⟩
      simp only [if_pos h0, if_pos (show x.length < 17592186044416 by omega)]
      rw [w64 (by omega) (by omega)]
      exact e
    · exact ih n x i h (by omega) hn' hx

theorem drawAny_some {b : List Int} {i : Int} (h : Int) (c : Cur b i) : ∃ l i' h', Ev (fun k => spec_l1DrawAny.f k b i h) (l, i', h') ∧ Cur b i' ∧ l.length ≤ 66 := by
  obtain ⟨a, i1, h1, e1, c1, hl⟩ := drawNat_some h c (n := 7) (by omega) (by omega)
  obtain ⟨v, i2, h2, e2, v0, v1, c2⟩ := below_some h1 c1 (n := 30) (by omega) (by omega)
  by_cases p0 : v = 0
  · obtain ⟨w, i3, h3, e3, _, c3⟩ := pick_some h2 c2 (l := [0, (-1), 65536, 1]) (by simp) (by simp)
    refine ⟨a ++ [w], i3, h3, ?_, c3, by simp; omega⟩
    unfold spec_l1DrawAny.f
    refine Ev.bind e1 ?_
    simp only [e2, e3, Option.bind_some, if_pos p0, if_pos (show a.length < 17592186044416 by omega)]
    exact Ev.now _
  · by_cases p1 : v = 1
    · obtain ⟨x, i3, h3, e3, x0, x1, c3⟩ := below_some h2 c2 (n := 2) (by omega) (by omega)
      obtain ⟨y, i4, h4, e4, y0, y1, c4⟩ := below_some h3 c3 (n := 2) (by omega) (by omega)
      obtain ⟨l, e, hl'⟩ := drawAny_loop b (64 - x + y).toNat (64 - x + y) [] i4 h4 (Nat.le_refl _) (by omega) (by simp; omega)
      refine ⟨l, i4, h4, ?_, c4, by simp at hl'; omega⟩
      unfold spec_l1DrawAny.f
      refine Ev.bind e1 ?_
      simp only [e2, e3, e4, Option.bind_some, if_neg p0, if_pos p1]
      rw [w64 (n := 64 - x) (by omega) (by omega), w64 (by omega) (by omega)]
      exact e
    · refine ⟨a, i2, h2, ?_, c2, by omega⟩
      unfold spec_l1DrawAny.f
      refine Ev.bind e1 ?_
      simp only [e2, Option.bind_some, if_neg p0, if_neg p1]
      exact Ev.now _

theorem drawMod_some {b : List Int} {i : Int} (h : Int) (c : Cur b i) : ∃ l i' h', Ev (fun k => spec_l2DrawMod.f k b i h) (l, i', h') ∧ Cur b i' ∧ l.length ≤ 66 := by
  obtain ⟨v, i1, h1, e1, c1⟩ := once_some h c (n := 12) (by omega) (by omega)
  unfold spec_l2DrawMod.f
  simp only [e1, Option.bind_some]
  by_cases hv : v = true
  · obtain ⟨l, i2, h2, e2, c2, l2⟩ := drawAny_some h1 c1
    simp only [if_pos hv]
    exact ⟨l, i2, h2, Ev.bind e2 (Ev.now _), c2, l2⟩
  · obtain ⟨l, i2, h2, e2, c2, l2⟩ := drawNat_some h1 c1 (n := 5) (by omega) (by omega)
    simp only [if_neg hv]
    by_cases hl : (l.length : Int) = 0
    · obtain ⟨x, i3, h3, e3, _, c3⟩ := pick_some h2 c2 (l := [1, 2, 7, 65535]) (by simp) (by simp)
      refine ⟨[x], i3, h3, Ev.bind e2 ?_, c3, by simp⟩
      simp only [if_pos hl, e3, Option.bind_some]
      exact Ev.now _
    · refine ⟨l, i2, h2, Ev.bind e2 ?_, c2, by omega⟩
      simp only [if_neg hl]
      exact Ev.now _

theorem draws (l : List Int) (hl : l.length ≤ 1048576) : ∃ a m, a.length ≤ 66 ∧ m.length ≤ 66 ∧ Ev (fun k => spec_DrawModInv.f k l) (a, m) := by
  obtain ⟨h, e, c⟩ := new_some l (by omega)
  obtain ⟨a, i1, h1, e1, c1, l1⟩ := drawNat_some h c (n := 5) (by omega) (by omega)
  obtain ⟨m, i2, h2, e2, c2, l2⟩ := drawMod_some h1 c1
  refine ⟨a, m, by omega, l2, ?_⟩
  unfold spec_DrawModInv.f
  exact Ev.bind e (Ev.bind e1 (Ev.bind e2 (Ev.now _)))

/-- The greatest common divisor. -/
theorem gcd_loop : ∀ (n : Nat) (a b : Int), 0 ≤ a → 0 ≤ b → b.toNat ≤ n → Ev (fun k => impl_Gcd.l0 k a b) (Int.gcd a b : Int) := by
  intro n
  induction n with
  | zero =>
    intro a b ha hb hn
    obtain rfl : b = 0 := by omega
    refine Ev.step (fun k => by rw [impl_Gcd.l0]) ?_
    have : ((Int.gcd a 0 : Nat) : Int) = a := by rw [Int.gcd_zero_right]; omega
    rw [this]
    simpa using Ev.now a
  | succ n ih =>
    intro a b ha hb hn
    by_cases h0 : b = 0
    · exact ih a b ha hb (by omega)
    · have h1 := Int.emod_nonneg a h0
      have h2 := Int.emod_lt_of_pos a (show 0 < b by omega)
      have e : a.tmod b = a % b := Int.tmod_eq_emod_of_nonneg ha
      have h3 := ih b (a % b) hb h1 (by omega)
      have h4 : Int.gcd b (a % b) = Int.gcd a b := by
        rw [Int.gcd_comm a b, show a % b = a - b * (a / b) by have := Int.mul_ediv_add_emod a b; omega]
        exact Int.gcd_sub_mul_left_right b a (a / b)
      rw [h4] at h3
      refine Ev.step (fun k => by rw [impl_Gcd.l0]) ?_
      simpa [h0, e] using h3

theorem gcd_eq {a b : Int} (ha : 0 ≤ a) (hb : 0 ≤ b) : Ev (fun k => impl_Gcd.f k a b) (Int.gcd a b : Int) := by
  have e := gcd_loop b.toNat a b ha hb (Nat.le_refl _)
  unfold impl_Gcd.f
  simp only [if_neg (show ¬ a < 0 by omega), show ¬ b < 0 by omega, decide_false]
  exact Ev.step (fun k => by rw [impl_Gcd.j0]) (by simpa using e)

theorem gcd_neg {a b : Int} (h : a < 0 ∨ b < 0) : Ev (fun k => impl_Gcd.f k a b) (-1) := by
  have hj : Ev (fun k => impl_Gcd.j0 k a b true) (-1) := Ev.step (fun k => by rw [impl_Gcd.j0]) (by simpa using Ev.now (-1 : Int))
  unfold impl_Gcd.f
  by_cases ha : a < 0
  · simp only [if_pos ha]
    exact hj
  · simp only [if_neg ha, show b < 0 by omega, decide_true]
    exact hj

theorem gcdWay (l : List Int) (hl : l.length ≤ 1048576) : Ev (fun k => laws_FnPowers.j2 k l false) true := by
  obtain ⟨h, e, c⟩ := new_some l (by omega)
  obtain ⟨u, i1, h1, e1, u0, u1, c1⟩ := below_some h c (n := 40) (by omega) (by omega)
  obtain ⟨v, i2, h2, e2, v0, v1, c2⟩ := below_some h1 c1 (n := 200) (by omega) (by omega)
  obtain ⟨w, i3, h3, e3, w0, w1, c3⟩ := below_some h2 c2 (n := 200) (by omega) (by omega)
  obtain ⟨x, i4, h4, e4, x0, x1, c4⟩ := below_some h3 c3 (n := 20) (by omega) (by omega)
  have dr : ∃ p q, Ev (fun k => spec_DrawGcd.f k l) (p, q) := by
    refine ⟨wrap64 ((wrap64 (1 + u)) * v), wrap64 ((wrap64 ((wrap64 (1 + u)) * w)) - (wrap64 (Int.tdiv x 19))), ?_⟩
    unfold spec_DrawGcd.f
    refine Ev.bind e ?_
    simp only [e1, e2, e3, e4, Option.bind_some]
    exact Ev.now _
  obtain ⟨p, q, dr⟩ := dr
  refine Ev.step (fun k => by rw [laws_FnPowers.j2]) ?_
  simp only [Bool.false_eq_true, if_false]
  refine Ev.bind dr ?_
  by_cases hn : p < 0 ∨ q < 0
  · refine Ev.bind (gcd_neg hn) (Ev.bind (gcd_neg hn.symm) ?_)
    simp only [if_true]
    rcases hn with hn | hn
    · simp only [if_pos hn]; exact Ev.now _
    · by_cases hp : p < 0
      · simp only [if_pos hp]; exact Ev.now _
      · simp only [if_neg hp, if_pos hn]; exact Ev.now _
  · have p0 : 0 ≤ p := by omega
    have q0 : 0 ≤ q := by omega
    have g1 := gcd_eq p0 q0
    have g2 := gcd_eq q0 p0
    rw [Int.gcd_comm q p] at g2
    refine Ev.bind g1 (Ev.bind g2 ?_)
    simp only [if_true, if_neg (show ¬ p < 0 by omega), if_neg (show ¬ q < 0 by omega)]
    by_cases hz : ((Int.gcd p q : Nat) : Int) = 0
    · have hz' : Int.gcd p q = 0 := by omega
      obtain ⟨rfl, rfl⟩ := Int.gcd_eq_zero_iff.1 hz'
      simp only [Int.gcd_zero_right, Int.natAbs_zero, Int.natCast_zero, if_true]
      exact Ev.now _
    · have hpos : ((Int.gcd p q : Nat) : Int) > 0 := by omega
      have d1 : ((Int.gcd p q : Nat) : Int) ∣ p := Int.gcd_dvd_left p q
      have d2 : ((Int.gcd p q : Nat) : Int) ∣ q := Int.gcd_dvd_right p q
      simp only [if_neg hz, if_pos hpos, Int.tmod_eq_emod_of_nonneg p0, Int.tmod_eq_emod_of_nonneg q0, Int.emod_eq_zero_of_dvd d1, Int.emod_eq_zero_of_dvd d2, if_true]
      exact Ev.now _

theorem goodWay (l a m : List Int) (hw : ∀ x ∈ l, 0 ≤ x ∧ x ≤ 255) (hl : l.length ≤ 1048576) (ka : natOk a = true) (km : natOk m = true) (hne : m ≠ []) : Ev (fun k => laws_FnPowers.j0 k l a m false) true := by
  obtain ⟨x, e0, x0, x1⟩ := at_some hw hl (i := 0) (by omega) (by omega)
  obtain ⟨y, e1, y0, y1⟩ := at_some hw hl (i := 1) (by omega) (by omega)
  obtain ⟨f, f1, f2, f3, f4, f5⟩ := ImplNatOf_eq (a := x) (by omega) (by omega)
  obtain ⟨g, g1, g2, g3, g4, g5⟩ := ImplNatOf_eq (a := y) (by omega) (by omega)
  obtain ⟨s, s1, s2, s3, s4, s5⟩ := ImplNatOf_eq (a := x + y) (by omega) (by omega)
  have ew : wrap64 (x + y) = x + y := w64 (by omega) (by omega)
  obtain ⟨p, kp, pv, ep⟩ := ModPow_ok ka ((natOk_iff f).2 ⟨by clear ew; omega, f2, f3⟩) km hne
  obtain ⟨q, kq, qv, eq⟩ := ModPow_ok ka ((natOk_iff g).2 ⟨by clear ew; omega, g2, g3⟩) km hne
  obtain ⟨r, kr, rv, er⟩ := ModPow_ok ka ((natOk_iff s).2 ⟨by clear ew; omega, s2, s3⟩) km hne
  obtain ⟨t, kt, tv, et⟩ := ModMul_ok kp kq km hne
  have same : r = t := by
    obtain ⟨_, dr, nr⟩ := (natOk_iff r).1 kr
    obtain ⟨_, dt, nt⟩ := (natOk_iff t).1 kt
    refine val_inj dr dt nr nt ?_
    rw [tv, rv, pv, qv, f4, g4, s4, mulmod, ← Int.pow_add]
    congr 2
    clear ew
    omega
  subst same
  obtain ⟨rl, _, _⟩ := (natOk_iff r).1 kr
  have sm := sameInts_eq r (by clear ew; omega)
  refine Ev.step (fun k => by rw [laws_FnPowers.j0]) ?_
  simp only [Bool.false_eq_true, if_false, e0, e1, Option.bind_some, ew]
  clear ew
  refine Ev.bind f5 (Ev.bind g5 (Ev.bind s5 (Ev.bind ep (Ev.bind eq (Ev.bind er (Ev.bind et ?_))))))
  simp only [if_true]
  refine Ev.bind sm ?_
  simp only [Bool.not_true]
  obtain ⟨z, b, kz, hz, _, ez⟩ := ModInv_ok ka km hne
  obtain ⟨o, ko, ov, eo⟩ := ModMul_ok ka kz km hne
  refine Ev.step (fun k => by rw [laws_FnPowers.j1]) ?_
  simp only [Bool.false_eq_true, if_false]
  refine Ev.bind ez (Ev.bind eo ?_)
  cases b with
  | false =>
    simp only [Bool.false_eq_true, if_false]
    exact gcdWay l hl
  | true =>
    obtain ⟨hm, hi⟩ := hz rfl
    have ho : o = [1] := by
      obtain ⟨_, d1, n1⟩ := (natOk_iff o).1 ko
      obtain ⟨o1, o2, o3⟩ := one_list
      refine val_inj d1 o1 n1 o2 ?_
      rw [ov, o3]
      rcases hi with ⟨_, _, _, u, hu⟩ | ⟨hf, _, _⟩
      · have : val a * val z = 1 + val m * u := by omega
        rw [this, Int.add_mul_emod_self_left, Int.emod_eq_of_lt (by omega) (by omega)]
      · exact absurd hf (by simp)
    subst ho
    have sm := sameInts_eq [1] (by simp)
    simp only [if_true]
    refine Ev.bind sm ?_
    simp only [Bool.not_true]
    exact gcdWay l hl

theorem FnPowers : laws_FnPowers.Pure := by
  intro l _ _ hw
  have hw := wfu8 hw
  refine Ev.rounds (r := true) ?_
  unfold laws_FnPowers.f laws_big.f
  simp only [Option.bind_some]
  by_cases h : (l.length : Int) > 1048576
  · simp only [h, decide_true, if_true]; exact Ev.now _
  simp only [h, decide_false, Bool.false_eq_true, if_false]
  obtain ⟨a, m, la, lm, e⟩ := draws l (by omega)
  have hj : Ev (fun k => laws_FnPowers.j0 k l a m true) true := by
    refine Ev.step (fun k => by rw [laws_FnPowers.j0]) ?_
    simp only [if_true]
    exact Ev.now _
  refine Ev.bind e ?_
  refine Ev.bind (specNatOk_eq a (by omega)) ?_
  cases ka : natOk a with
  | false => simpa using hj
  | true =>
    simp only [if_true]
    refine Ev.bind (specNatOk_eq m (by omega)) ?_
    cases km : natOk m with
    | false => simpa using hj
    | true =>
      simp only [if_true]
      by_cases h0 : (m.length : Int) = 0
      · simp only [if_pos h0]; exact hj
      · simp only [if_neg h0]
        by_cases h1 : (m.length : Int) > 20
        · simp only [h1, decide_true]; exact hj
        · simp only [h1, decide_false]
          exact goodWay l a m hw (by omega) ka km (by rintro rfl; simp at h0)

end Go.Proofs.Ytehdmpfeddieoaa.Pure
