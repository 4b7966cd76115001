/- The extended Euclidean algorithm with rests between 0 and m: what holds of its state, and what it comes to. -/
import Derived.Test.YtehdmpfeddieoaaMInv
namespace Go.Proofs.Ytehdmpfeddieoaa.Plain
set_option linter.unusedVariables false
set_option linter.unusedSimpArgs false

/-- The state: the numbers beside are what is left by m. -/
structure MoInv (a m r s x y : Int) : Prop where
  r1 : 1 ≤ r
  s0 : 0 ≤ s
  lt : s < r
  rm : r ≤ m
  x0 : 0 ≤ x
  xm : x < m
  y0 : 0 ≤ y
  ym : y < m
  c1 : m ∣ x * a - r
  c2 : m ∣ y * a - s
  gc : ∀ d : Int, (d ∣ r ∧ d ∣ s) ↔ (d ∣ m ∧ d ∣ a)

theorem MoInv.start {a m : Int} (hm : 2 ≤ m) : MoInv a m m (a % m) 0 1 := by
  have h := EuInv.start (a := a) hm
  exact ⟨h.l1, h.l0, h.lt, h.lm, by omega, by omega, by omega, by omega, h.c1, h.c2, h.gc⟩

theorem MoInv.step {a m r s x y q t z : Int} (h : MoInv a m r s x y) (hp : 0 < s) (hq : q = r / s) (ht : t = q * y % m) (hz : z = (x + (m - t)) % m) :
    MoInv a m s (r % s) y z := by
  obtain ⟨r1, s0, lt, rm, x0, xm, y0, ym, c1, c2, gc⟩ := h
  have h0 := Int.emod_nonneg r (show s ≠ 0 by omega)
  have h1 := Int.emod_lt_of_pos r hp
  have h2 := Int.emod_add_ediv_mul r s
  have z0 := Int.emod_nonneg (x + (m - t)) (show m ≠ 0 by omega)
  have z1 := Int.emod_lt_of_pos (x + (m - t)) (show 0 < m by omega)
  have h3 := Int.emod_add_ediv_mul (q * y) m
  have h4 := Int.emod_add_ediv_mul (x + (m - t)) m
  rw [← ht] at h3
  rw [← hz] at h4 z0 z1
  rw [← hq] at h2
  refine ⟨by omega, h0, h1, by omega, y0, ym, z0, z1, c2, ?_, ?_⟩
  · obtain ⟨u, hu⟩ := c1
    obtain ⟨v, hv⟩ := c2
    generalize q * y / m = e1 at *
    generalize (x + (m - t)) / m = e2 at *
    generalize r % s = w at *
    clear z0 z1 h0 h1 gc
    exact ⟨u - q * v + a + e1 * a - e2 * a, by grind⟩
  · intro d
    rw [← gc d]
    constructor
    · rintro ⟨h, k⟩
      refine ⟨?_, h⟩
      rw [← h2]
      exact Int.dvd_add k (Int.dvd_mul_of_dvd_right h)
    · rintro ⟨h, k⟩
      refine ⟨k, ?_⟩
      have : r % s = r - q * s := by omega
      rw [this]
      exact Int.dvd_sub h (Int.dvd_mul_of_dvd_right k)

theorem MoInv.one {a m r x y : Int} (hm : 2 ≤ m) (h : MoInv a m r 0 x y) (h1 : r = 1) : InvIs a m x true := by
  subst h1
  obtain ⟨u, hu⟩ := h.c1
  refine .inl ⟨rfl, ?_, h.xm, ⟨u, by grind⟩⟩
  rcases Int.lt_or_eq_of_le h.x0 with hx | hx
  · exact hx
  · rw [← hx] at hu
    have := Int.le_of_dvd (a := m) (b := 1) (by omega) ⟨-u, by grind⟩
    omega

theorem MoInv.more {a m r x y : Int} (h : MoInv a m r 0 x y) (h1 : r ≠ 1) : InvIs a m 0 false := by
  refine .inr ⟨rfl, rfl, fun x ⟨u, hu⟩ => ?_⟩
  obtain ⟨hm, ha⟩ := (h.gc r).1 ⟨Int.dvd_refl _, Int.dvd_zero _⟩
  obtain ⟨v, rfl⟩ := hm
  obtain ⟨w, rfl⟩ := ha
  have := Int.le_of_dvd (a := r) (b := 1) (by omega) ⟨w * x - v * u, by grind⟩
  have := h.r1
  omega

end Go.Proofs.Ytehdmpfeddieoaa.Plain
