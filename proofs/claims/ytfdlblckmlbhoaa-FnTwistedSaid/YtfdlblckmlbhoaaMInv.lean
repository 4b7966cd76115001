/- The extended Euclidean algorithm over whole numbers: what holds of its state, and what it comes to. -/
namespace Go.Proofs.Ytfdlblckmlbhoaa.Plain
set_option linter.unusedVariables false
set_option linter.unusedSimpArgs false

/-- Loop of the extended Euclidean algorithm, as a plain fact. -/
theorem tmod_of_nonneg {a b : Int} (h : 0 ≤ a) : a.tmod b = a % b := Int.tmod_eq_emod_of_nonneg h
theorem tdiv_of_nonneg {a b : Int} (h : 0 ≤ a) : a.tdiv b = a / b := Int.tdiv_eq_ediv_of_nonneg h

/-- The state of the extended Euclidean algorithm. -/
structure EuInv (a m last left before now : Int) : Prop where
  l1 : 1 ≤ last
  l0 : 0 ≤ left
  lt : left < last
  lm : last ≤ m
  c1 : m ∣ before * a - last
  c2 : m ∣ now * a - left
  bal : last * now.natAbs + left * before.natAbs = m
  sg : (before ≤ 0 ∧ 0 ≤ now) ∨ (now ≤ 0 ∧ 0 ≤ before)
  gc : ∀ d : Int, (d ∣ last ∧ d ∣ left) ↔ (d ∣ m ∧ d ∣ a)

theorem EuInv.start {a m : Int} (hm : 2 ≤ m) : EuInv a m m (a % m) 0 1 := by
  have h0 := Int.emod_nonneg a (show m ≠ 0 by omega)
  have h1 := Int.emod_lt_of_pos a (show 0 < m by omega)
  have h2 := Int.emod_add_ediv_mul a m
  refine ⟨by omega, h0, h1, by omega, ⟨-1, by omega⟩, ⟨a / m, by grind⟩, by simp, by omega, fun d => ?_⟩
  constructor
  · rintro ⟨h, k⟩
    refine ⟨h, ?_⟩
    rw [← h2]
    exact Int.dvd_add k (Int.dvd_mul_of_dvd_right h)
  · rintro ⟨h, k⟩
    refine ⟨h, ?_⟩
    have : a % m = a - a / m * m := by omega
    rw [this]
    exact Int.dvd_sub k (Int.dvd_mul_of_dvd_right h)

theorem EuInv.step {a m last left before now : Int} (h : EuInv a m last left before now) (hp : 0 < left) :
    EuInv a m left (last % left) now (before - last / left * now) := by
  obtain ⟨l1, l0, lt, lm, c1, c2, bal, sg, gc⟩ := h
  have h0 := Int.emod_nonneg last (show left ≠ 0 by omega)
  have h1 := Int.emod_lt_of_pos last hp
  have h2 := Int.emod_add_ediv_mul last left
  have hq : 0 ≤ last / left := Int.ediv_nonneg (by omega) (by omega)
  refine ⟨by omega, h0, h1, by omega, c2, ?_, ?_, ?_, ?_⟩
  · obtain ⟨u, hu⟩ := c1
    obtain ⟨v, hv⟩ := c2
    exact ⟨u - last / left * v, by grind⟩
  · generalize hq' : last / left = q at *
    have e : ((before - q * now).natAbs : Int) = before.natAbs + q * now.natAbs := by
      rcases sg with ⟨s1, s2⟩ | ⟨s1, s2⟩
      · have := Int.mul_nonneg hq s2
        rw [show ((before - q * now).natAbs : Int) = -(before - q*now) by omega, show (before.natAbs : Int) = -before by omega, show (now.natAbs : Int) = now by omega]; grind
      · have : 0 ≤ q * (-now) := Int.mul_nonneg hq (by omega)
        have : q * (-now) = -(q*now) := by grind
        rw [show ((before - q * now).natAbs : Int) = (before - q*now) by omega, show (before.natAbs : Int) = before by omega, show (now.natAbs : Int) = -now by omega]; grind
    rw [e]; grind
  · generalize hq' : last / left = q at *
    rcases sg with ⟨s1, s2⟩ | ⟨s1, s2⟩
    · right; have := Int.mul_nonneg hq s2; omega
    · left; have : 0 ≤ q * (-now) := Int.mul_nonneg hq (by omega)
      have : q * (-now) = -(q*now) := by grind
      omega
  · intro d
    rw [← gc d]
    constructor
    · rintro ⟨h, k⟩
      refine ⟨?_, h⟩
      rw [← h2]
      exact Int.dvd_add k (Int.dvd_mul_of_dvd_right h)
    · rintro ⟨h, k⟩
      refine ⟨k, ?_⟩
      have : last % left = last - last / left * left := by omega
      rw [this]
      exact Int.dvd_sub h (Int.dvd_mul_of_dvd_right k)

theorem EuInv.now_le {a m last left before now : Int} (h : EuInv a m last left before now) : -m ≤ now ∧ now ≤ m ∧ -m ≤ before * left ∧ before * left ≤ m := by
  obtain ⟨l1, l0, lt, lm, c1, c2, bal, sg, gc⟩ := h
  have e1 : 0 ≤ left * before.natAbs := Int.mul_nonneg l0 (by omega)
  have e2 : (1:Int) * now.natAbs ≤ last * now.natAbs := Int.mul_le_mul_of_nonneg_right l1 (by omega)
  have e3 : 0 ≤ last * (now.natAbs : Int) := Int.mul_nonneg (by omega) (by omega)
  refine ⟨by omega, by omega, ?_, ?_⟩
  · rcases Int.natAbs_eq before with hb | hb <;> (rw [hb, Int.mul_comm]; first | omega | (rw [Int.mul_neg]; omega))
  · rcases Int.natAbs_eq before with hb | hb <;> (rw [hb, Int.mul_comm]; first | omega | (rw [Int.mul_neg]; omega))

/-- What the inverse of a by m is: the one between 0 and m, or none. -/
def InvIs (a m r : Int) (b : Bool) : Prop :=
  (b = true ∧ 0 < r ∧ r < m ∧ m ∣ a * r - 1) ∨ (b = false ∧ r = 0 ∧ ∀ x : Int, ¬ m ∣ a * x - 1)

theorem InvIs.unique {a m r r' : Int} {b b' : Bool} (h : InvIs a m r b) (h' : InvIs a m r' b') : r = r' ∧ b = b' := by
  rcases h with ⟨rfl, h1, h2, h3⟩ | ⟨rfl, rfl, h4⟩ <;> rcases h' with ⟨rfl, k1, k2, k3⟩ | ⟨rfl, rfl, k4⟩
  · refine ⟨?_, rfl⟩
    obtain ⟨u, hu⟩ := h3
    obtain ⟨v, hv⟩ := k3
    have d : m ∣ r - r' := ⟨r' * u - r * v, by grind⟩
    have := Int.eq_zero_of_dvd_of_natAbs_lt_natAbs d (by omega)
    omega
  · exact absurd h3 (k4 r)
  · exact absurd k3 (h4 r')
  · exact ⟨rfl, rfl⟩

theorem EuInv.one {a m last before now : Int} (hm : 2 ≤ m) (h : EuInv a m last 0 before now) (h1 : last = 1) : InvIs a m (before % m) true := by
  subst h1
  obtain ⟨u, hu⟩ := h.c1
  have h0 := Int.emod_nonneg before (show m ≠ 0 by omega)
  have h1 := Int.emod_lt_of_pos before (show 0 < m by omega)
  have h2 := Int.emod_add_ediv_mul before m
  have hd : m ∣ a * (before % m) - 1 := ⟨u - a * (before / m), by grind⟩
  refine .inl ⟨rfl, ?_, h1, hd⟩
  rcases Int.lt_or_eq_of_le h0 with h | h
  · exact h
  · rw [← h] at hd
    obtain ⟨v, hv⟩ := hd
    have := Int.le_of_dvd (a := m) (b := 1) (by omega) ⟨-v, by grind⟩
    omega

theorem EuInv.more {a m last before now : Int} (h : EuInv a m last 0 before now) (h1 : last ≠ 1) : InvIs a m 0 false := by
  refine .inr ⟨rfl, rfl, fun x ⟨u, hu⟩ => ?_⟩
  obtain ⟨hm, ha⟩ := (h.gc last).1 ⟨Int.dvd_refl _, Int.dvd_zero _⟩
  obtain ⟨v, rfl⟩ := hm
  obtain ⟨w, rfl⟩ := ha
  have := Int.le_of_dvd (a := last) (b := 1) (by omega) ⟨w * x - v * u, by grind⟩
  have := h.l1
  omega

end Go.Proofs.Ytfdlblckmlbhoaa.Plain
