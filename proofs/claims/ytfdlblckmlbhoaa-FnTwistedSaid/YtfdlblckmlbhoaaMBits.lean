/- How many bits a number has; what its bits are. -/
namespace Go.Proofs.Ytfdlblckmlbhoaa.Plain
set_option linter.unusedVariables false
set_option linter.unusedSimpArgs false

/-- How many halvings till nothing is left. -/
def bl : Nat → Nat
  | 0 => 0
  | n + 1 => bl ((n + 1) / 2) + 1
decreasing_by omega

theorem bl_zero : bl 0 = 0 := by rw [bl]
theorem bl_pos {n : Nat} (h : n ≠ 0) : bl n = bl (n / 2) + 1 := by
  obtain ⟨m, rfl⟩ : ∃ m, n = m + 1 := ⟨n - 1, by omega⟩
  rw [bl]

theorem bl_shift (k : Nat) : ∀ n : Nat, 2 ^ k ≤ n → bl n = bl (n / 2 ^ k) + k := by
  induction k with
  | zero => intro n _; simp
  | succ k ih =>
    intro n h
    rw [Nat.pow_succ] at h
    have h2 : 0 < 2 ^ k := Nat.two_pow_pos k
    rw [bl_pos (by omega), ih (n / 2) (by omega), Nat.div_div_eq_div_mul, Nat.pow_succ, Nat.mul_comm 2]
    omega

theorem bl_lt : ∀ (n : Nat), n < 2 ^ bl n := by
  intro n
  induction n using Nat.strongRecOn with
  | ind n ih =>
    by_cases h : n = 0
    · subst h; simp [bl_zero]
    · rw [bl_pos h, Nat.pow_succ]
      have := ih (n / 2) (by omega)
      omega

theorem bl_ge : ∀ (n : Nat), n ≠ 0 → 2 ^ (bl n - 1) ≤ n := by
  intro n
  induction n using Nat.strongRecOn with
  | ind n ih =>
    intro h
    rw [bl_pos h, Nat.add_sub_cancel]
    by_cases h2 : n / 2 = 0
    · rw [h2, bl_zero]; omega
    · have h3 := ih (n / 2) (by omega) h2
      obtain ⟨m, hm⟩ : ∃ m, bl (n / 2) = m + 1 := ⟨bl (n / 2) - 1, by rw [bl_pos h2]; omega⟩
      rw [hm] at h3 ⊢
      rw [Nat.add_sub_cancel] at h3
      rw [Nat.pow_succ]
      omega

theorem bl_le {n k : Nat} (h : n < 2 ^ k) : bl n ≤ k := by
  by_cases h0 : n = 0
  · subst h0; rw [bl_zero]; omega
  · have h1 := bl_ge n h0
    rcases Nat.lt_or_ge k (bl n) with h2 | h2
    · have : 2 ^ k ≤ 2 ^ (bl n - 1) := Nat.pow_le_pow_right (by omega) (by omega)
      omega
    · exact h2

theorem lt_of_bl {n k : Nat} (h : bl n ≤ k) : n < 2 ^ k := Nat.lt_of_lt_of_le (bl_lt n) (Nat.pow_le_pow_right (by omega) h)

theorem two_pow_int (n : Nat) : ((2 ^ n : Nat) : Int) = 2 ^ n := by simp

/-- The next bit below. -/
theorem div_step (e : Nat) (i : Nat) : e / 2 ^ i = 2 * (e / 2 ^ (i + 1)) + (e / 2 ^ i) % 2 := by
  rw [Nat.pow_succ, ← Nat.div_div_eq_div_mul]
  omega

end Go.Proofs.Ytfdlblckmlbhoaa.Plain
