/- The law FnExactGcd answers true at all numbers: both greatest common divisors come to the same number. -/
import Derived.Test.YtlnffljhibihnaaPFnExactGcdx1
namespace Go.Proofs.Ytlnffljhibihnaa.Pure
open Go.RowKit Go.Proofs.Ytlnffljhibihnaa.PFnExactGcd Go.Proofs.YtlnffljhibihnaaW.PrintWords Go.Proofs.YtlnffljhibihnaaW.PrintLast

theorem w64 {n : Int} (h : -9223372036854775808 ≤ n) (h' : n ≤ 9223372036854775807) : wrap64 n = n := by
  unfold wrap64
  omega

theorem wf64 {n : Int} (h : (Lit.int .i64 n).wf = true) : -9223372036854775808 ≤ n ∧ n ≤ 9223372036854775807 := by
  simpa [Lit.wf, IntKind.min, IntKind.max, IntKind.signed, IntKind.bits] using h

theorem loops : ∀ (n : Nat) (a b : Int), 0 ≤ a → 0 ≤ b → b.toNat ≤ n → ∃ r, Ev (fun k => spec_Gcd.l0 k a b) r ∧ Ev (fun k => impl_Gcd.l0 k a b) r := by
  intro n
  induction n with
  | zero =>
    intro a b ha hb hn
    obtain rfl : b = 0 := by omega
    exact ⟨a, Ev.step (fun k => by rw [spec_Gcd.l0]) (by simpa using Ev.now a), Ev.step (fun k => by rw [impl_Gcd.l0]) (by simpa using Ev.now a)⟩
  | succ n ih =>
    intro a b ha hb hn
    by_cases h0 : b = 0
    · exact ih a b ha hb (by omega)
    · have hp : b > 0 := by omega
      have h1 := Int.emod_nonneg a h0
      have h2 := Int.emod_lt_of_pos a hp
      have e : a.tmod b = a % b := Int.tmod_eq_emod_of_nonneg ha
      obtain ⟨r, e1, e2⟩ := ih b (a % b) hb h1 (by omega)
      refine ⟨r, Ev.step (fun k => by rw [spec_Gcd.l0]) ?_, Ev.step (fun k => by rw [impl_Gcd.l0]) ?_⟩
      · simpa [h0, hp, e] using e1
      · simpa [h0, e] using e2

theorem both (a b : Int) : ∃ r, Ev (fun k => spec_Gcd.f k a b) r ∧ Ev (fun k => impl_Gcd.f k a b) r := by
  unfold spec_Gcd.f impl_Gcd.f
  by_cases ha : a < 0
  · simp only [if_pos ha]
    exact ⟨-1, Ev.step (fun k => by rw [spec_Gcd.j0]) (by simpa using Ev.now (-1 : Int)), Ev.step (fun k => by rw [impl_Gcd.j0]) (by simpa using Ev.now (-1 : Int))⟩
  · simp only [if_neg ha]
    by_cases hb : b < 0
    · simp only [hb, decide_true]
      exact ⟨-1, Ev.step (fun k => by rw [spec_Gcd.j0]) (by simpa using Ev.now (-1 : Int)), Ev.step (fun k => by rw [impl_Gcd.j0]) (by simpa using Ev.now (-1 : Int))⟩
    · obtain ⟨r, e1, e2⟩ := loops b.toNat a b (by omega) (by omega) (by omega)
      simp only [hb, decide_false]
      exact ⟨r, Ev.step (fun k => by rw [spec_Gcd.j0]) (by simpa using e1), Ev.step (fun k => by rw [impl_Gcd.j0]) (by simpa using e2)⟩

theorem FnExactGcd : laws_FnExactGcd.Pure := by
  intro a b _ _
  obtain ⟨r, e1, e2⟩ := both a b
  refine Ev.rounds (r := true) ?_
  unfold laws_FnExactGcd.f
  refine Ev.bind e1 (Ev.bind e2 ?_)
  simpa using Ev.now true

end Go.Proofs.Ytlnffljhibihnaa.Pure
