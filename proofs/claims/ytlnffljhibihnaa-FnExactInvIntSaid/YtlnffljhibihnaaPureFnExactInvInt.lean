/- The law FnExactInvInt answers true at all numbers: both come to the one inverse, or both to none. -/
import Derived.Test.YtlnffljhibihnaaPFnExactInvIntx1
import Derived.Test.YtlnffljhibihnaaMInv
namespace Go.Proofs.Ytlnffljhibihnaa.Pure
open Go.RowKit Go.Proofs.Ytlnffljhibihnaa.PFnExactInvInt Go.Proofs.YtlnffljhibihnaaW.PrintWords Go.Proofs.YtlnffljhibihnaaW.PrintLast Go.Proofs.Ytlnffljhibihnaa.Plain

theorem w64 {n : Int} (h : -9223372036854775808 ≤ n) (h' : n ≤ 9223372036854775807) : wrap64 n = n := by
  unfold wrap64
  omega

theorem wf64 {n : Int} (h : (Lit.int .i64 n).wf = true) : -9223372036854775808 ≤ n ∧ n ≤ 9223372036854775807 := by
  simpa [Lit.wf, IntKind.min, IntKind.max, IntKind.signed, IntKind.bits] using h

theorem in_eq (n a b : Int) : spec_l1In.f n a b = some (decide (a ≤ n ∧ n ≤ b)) := by
  unfold spec_l1In.f
  by_cases h : n ≥ a
  · rw [if_pos h]
    have : a ≤ n := h
    simp [this]
  · rw [if_neg h]
    have : ¬ a ≤ n := h
    simp [this]

theorem within_eq (n a b : Int) : impl_within.f n a b = some (decide (a ≤ n ∧ n ≤ b)) := by
  unfold impl_within.f
  by_cases h : n ≥ a
  · rw [if_pos h]
    have : a ≤ n := h
    simp [this]
  · rw [if_neg h]
    have : ¬ a ≤ n := h
    simp [this]

theorem left_eq {a m : Int} (h1 : 0 < m) (h2 : m ≤ 4611686018427387904) : spec_l2Left.f a m = some (a % m) := by
  unfold spec_l2Left.f
  rw [if_neg (by omega)]
  have e0 := Int.tmod_lt_of_pos a h1
  have e1 := Int.lt_tmod_of_pos a h1
  rw [w64 (by omega) (by omega), Int.tmod_eq_emod_of_nonneg (by omega), Int.tmod_eq_emod]
  congr 1
  split
  · simp
  · rw [show a % m - ((m.natAbs : Nat) : Int) + m = a % m by omega, Int.emod_emod]

theorem rest_eq {a m : Int} (h1 : 0 < m) (h2 : m ≤ 4611686018427387904) : impl_rest.f a m = some (a % m) := by
  unfold impl_rest.f
  rw [if_neg (by omega)]
  have e0 := Int.tmod_lt_of_pos a h1
  have e1 := Int.lt_tmod_of_pos a h1
  rw [w64 (by omega) (by omega), Int.tmod_eq_emod_of_nonneg (by omega), Int.tmod_eq_emod]
  congr 1
  split
  · simp
  · rw [show a % m - ((m.natAbs : Nat) : Int) + m = a % m by omega, Int.emod_emod]

theorem specinv_loop (a m : Int) (hm : 2 ≤ m) (hM : m ≤ 1073741824) : ∀ (n : Nat) (last left before now : Int), left.toNat ≤ n → EuInv a m last left before now →
    -m ≤ before → before ≤ m → ∃ r b, InvIs a m r b ∧ Ev (fun k => spec_l2Inv.l0 k m last left before now) r := by
  intro n
  induction n with
  | zero =>
    intro last left before now hn h hb hb'
    have := h.l0
    obtain rfl : left = 0 := by omega
    by_cases h1 : last = 1
    · refine ⟨before % m, true, h.one hm h1, Ev.step (fun k => by rw [spec_l2Inv.l0]) ?_⟩
      subst h1
      simp [left_eq (show 0 < m by omega) (show m ≤ 4611686018427387904 by omega)]
      exact Ev.now _
    · refine ⟨0, false, h.more h1, Ev.step (fun k => by rw [spec_l2Inv.l0]) ?_⟩
      simp [h1]
      exact Ev.now _
  | succ n ih =>
    intro last left before now hn h hb hb'
    by_cases h0 : left = 0
    · exact ih last left before now (by omega) h hb hb'
    · have hp : 0 < left := by have := h.l0; omega
      have h' := h.step hp
      have b1 := h.now_le
      have b2 := h'.now_le
      have l1 := h.l1
      have hl := h.lm
      have q0 : 0 ≤ last / left := Int.ediv_nonneg (by omega) (by omega)
      have q1 : last / left ≤ last := Int.ediv_le_self _ (by omega)
      obtain ⟨r, b, hr, ev⟩ := ih left (last % left) now (before - last / left * now) (by have := h'.lt; have := h'.l0; omega) h' (by omega) (by omega)
      refine ⟨r, b, hr, Ev.step (fun k => by rw [spec_l2Inv.l0]) ?_⟩
      rw [tdiv_of_nonneg (by omega), tmod_of_nonneg (by omega), w64 (n := last / left) (by omega) (by omega), w64 (n := last / left * now) (by omega) (by omega), w64 (by omega) (by omega)]
      simpa [h0, hp] using ev

theorem implinv_loop (a m : Int) (hm : 2 ≤ m) (hM : m ≤ 1073741824) : ∀ (n : Nat) (last left before now : Int), left.toNat ≤ n → EuInv a m last left before now →
    -m ≤ before → before ≤ m → ∃ r b, InvIs a m r b ∧ Ev (fun k => impl_InvInt.l0 k m last left before now) (r,b) := by
  intro n
  induction n with
  | zero =>
    intro last left before now hn h hb hb'
    have := h.l0
    obtain rfl : left = 0 := by omega
    by_cases h1 : last = 1
    · refine ⟨before % m, true, h.one hm h1, Ev.step (fun k => by rw [impl_InvInt.l0]) ?_⟩
      subst h1
      simp [rest_eq (show 0 < m by omega) (show m ≤ 4611686018427387904 by omega)]
      exact Ev.now _
    · refine ⟨0, false, h.more h1, Ev.step (fun k => by rw [impl_InvInt.l0]) ?_⟩
      simp [h1]
      exact Ev.now _
  | succ n ih =>
    intro last left before now hn h hb hb'
    by_cases h0 : left = 0
    · exact ih last left before now (by omega) h hb hb'
    · have hp : 0 < left := by have := h.l0; omega
      have h' := h.step hp
      have b1 := h.now_le
      have b2 := h'.now_le
      have l1 := h.l1
      have hl := h.lm
      have q0 : 0 ≤ last / left := Int.ediv_nonneg (by omega) (by omega)
      have q1 : last / left ≤ last := Int.ediv_le_self _ (by omega)
      obtain ⟨r, b, hr, ev⟩ := ih left (last % left) now (before - last / left * now) (by have := h'.lt; have := h'.l0; omega) h' (by omega) (by omega)
      refine ⟨r, b, hr, Ev.step (fun k => by rw [impl_InvInt.l0]) ?_⟩
      rw [tdiv_of_nonneg (by omega), tmod_of_nonneg (by omega), w64 (n := last / left) (by omega) (by omega), w64 (n := last / left * now) (by omega) (by omega), w64 (by omega) (by omega)]
      simpa [h0, hp] using ev

theorem FnExactInvInt : laws_FnExactInvInt.Pure := by
  intro a m _ _
  refine Ev.rounds (r := true) ?_
  unfold laws_FnExactInvInt.f spec_InvInt.f impl_InvInt.f spec_l2Inv.f
  simp only [in_eq, within_eq, Option.bind_some]
  by_cases h : 2 ≤ m ∧ m ≤ 1073741824
  · simp only [h.1, h.2, and_self, decide_true, if_true, rest_eq (a := a) (m := m) (by omega) (by omega), left_eq (a := a) (m := m) (by omega) (by omega), Option.bind_some]
    obtain ⟨r, b, hr, e⟩ := specinv_loop a m h.1 h.2 (a % m).toNat m (a % m) 0 1 (by omega) (EuInv.start h.1) (by omega) (by omega)
    obtain ⟨r', b', hr', e'⟩ := implinv_loop a m h.1 h.2 (a % m).toNat m (a % m) 0 1 (by omega) (EuInv.start h.1) (by omega) (by omega)
    obtain ⟨rfl, rfl⟩ := hr.unique hr'
    refine Ev.bind (a := (r, decide (r > 0))) (Ev.bind e (Ev.now _)) (Ev.bind e' ?_)
    have : b = decide (r > 0) := by
      rcases hr with ⟨rfl, h1, _⟩ | ⟨rfl, rfl, _⟩
      · simp [h1]
      · simp
    simpa [this] using Ev.now true
  · simp only [h, decide_false]
    simpa using Ev.now true

end Go.Proofs.Ytlnffljhibihnaa.Pure
