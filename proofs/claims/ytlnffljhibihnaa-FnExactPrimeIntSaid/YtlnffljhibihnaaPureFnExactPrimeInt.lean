/- The law FnExactPrimeInt answers true at all numbers: both search for a divisor in the same way, and both end. -/
import Derived.Test.YtlnffljhibihnaaPFnExactPrimeIntx1
namespace Go.Proofs.Ytlnffljhibihnaa.Pure
open Go.RowKit Go.Proofs.Ytlnffljhibihnaa.PFnExactPrimeInt Go.Proofs.YtlnffljhibihnaaW.PrintWords Go.Proofs.YtlnffljhibihnaaW.PrintLast

theorem w64 {n : Int} (h : -9223372036854775808 ≤ n) (h' : n ≤ 9223372036854775807) : wrap64 n = n := by
  unfold wrap64
  omega

theorem wf64 {n : Int} (h : (Lit.int .i64 n).wf = true) : -9223372036854775808 ≤ n ∧ n ≤ 9223372036854775807 := by
  simpa [Lit.wf, IntKind.min, IntKind.max, IntKind.signed, IntKind.bits] using h

theorem in_eq (n a b : Int) : spec_l1In.f n a b = some (decide (a ≤ n ∧ n ≤ b)) := by
  unfold spec_l1In.f
  by_cases h : n ≥ a
  · rw [if_pos h]
    have : a ≤ n := h
    simp [this]
  · rw [if_neg h]
    have : ¬ a ≤ n := h
    simp [this]

theorem within_eq (n a b : Int) : impl_within.f n a b = some (decide (a ≤ n ∧ n ≤ b)) := by
  unfold impl_within.f
  by_cases h : n ≥ a
  · rw [if_pos h]
    have : a ≤ n := h
    simp [this]
  · rw [if_neg h]
    have : ¬ a ≤ n := h
    simp [this]

theorem same : ∀ (k : Nat) (n d : Int), spec_PrimeInt.l0 k n d = impl_PrimeInt.l0 k n d := by
  intro k
  induction k with
  | zero => intro n d; rfl
  | succ k ih => intro n d; rw [spec_PrimeInt.l0, impl_PrimeInt.l0]; simp only [ih]

theorem ends (n : Int) (hn : n ≤ 1099511627776) : ∀ (m : Nat) (d : Int), 2 ≤ d → (1048580 - d).toNat ≤ m → d ≤ 1048577 → ∃ r, Ev (fun k => impl_PrimeInt.l0 k n d) r := by
  intro m
  induction m with
  | zero => intro d h h1 h2; omega
  | succ m ih =>
    intro d h h1 h2
    have e0 : 0 ≤ d * d := Int.mul_nonneg (by omega) (by omega)
    have e1 : d * d ≤ 1048577 * 1048577 := Int.mul_le_mul h2 h2 (by omega) (by omega)
    have ew : wrap64 (d * d) = d * d := w64 (by omega) (by omega)
    have ew1 : wrap64 (d + 1) = d + 1 := w64 (by omega) (by omega)
    by_cases h3 : d * d ≤ n
    · by_cases h4 : n.tmod d = 0
      · refine ⟨false, Ev.step (fun k => by rw [impl_PrimeInt.l0]) ?_⟩
        simp only [ew, if_pos h3, if_neg (show ¬ d = 0 by omega), if_pos h4]
        exact Ev.now _
      · have h5 : d ≤ 1048576 := by
          rcases Int.lt_or_le 1048576 d with h6 | h6
          · have : (1048577 : Int) * 1048577 ≤ d * d := Int.mul_le_mul h6 h6 (by omega) (by omega)
            omega
          · exact h6
        obtain ⟨r, e⟩ := ih (d + 1) (by omega) (by omega) (by omega)
        refine ⟨r, Ev.step (fun k => by rw [impl_PrimeInt.l0]) ?_⟩
        simp only [ew, ew1, if_pos h3, if_neg (show ¬ d = 0 by omega), if_neg h4]
        exact e
    · refine ⟨true, Ev.step (fun k => by rw [impl_PrimeInt.l0]) ?_⟩
      simp only [ew, if_neg h3]
      exact Ev.now _

theorem FnExactPrimeInt : laws_FnExactPrimeInt.Pure := by
  intro n _
  refine Ev.rounds (r := true) ?_
  unfold laws_FnExactPrimeInt.f spec_PrimeInt.f impl_PrimeInt.f
  simp only [in_eq, within_eq, same, Option.bind_some]
  by_cases h : 2 ≤ n ∧ n ≤ 1099511627776
  · obtain ⟨r, e⟩ := ends n h.2 1048578 2 (by omega) (by omega) (by omega)
    simp only [h.1, h.2, and_self, decide_true, if_true]
    refine Ev.bind e (Ev.bind e ?_)
    simpa using Ev.now true
  · simp only [h, decide_false]
    simpa using Ev.now true

end Go.Proofs.Ytlnffljhibihnaa.Pure
