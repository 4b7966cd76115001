/- The sum of pairs of a twisted curve over a field: no pair is left out, and it may be put together otherwise. -/
namespace Go.Proofs.Ytfdlblckmlbhoaa.Plain
set_option linter.unusedVariables false
set_option linter.unusedSimpArgs false

open Lean.Grind
section
variable {F : Type} [Field F]

def EdOn (d x y : F) : Prop := y * y - x * x = 1 + d * x * x * y * y

def edAdd (d : F) (p q : F × F) : F × F :=
  ((p.1 * q.2 + p.2 * q.1) * (1 + d * p.1 * q.1 * p.2 * q.2)⁻¹, (p.2 * q.2 + p.1 * q.1) * (1 - d * p.1 * q.1 * p.2 * q.2)⁻¹)

/-- What makes the rule one without gaps: d is no square, -1 is one. -/
structure EdGood (d : F) : Prop where
  two : (2 : F) ≠ 0
  no : ∀ z : F, z * z ≠ d
  i : ∃ i : F, i * i = -1

theorem EdGood.nosq {d : F} (h : EdGood d) {v w : F} (e : d * (w * w) = v * v) : w = 0 := by
  by_cases hw : w = 0
  · exact hw
  · exfalso
    apply h.no (v * w⁻¹)
    grind

theorem EdGood.nosq' {d : F} (h : EdGood d) {v w : F} (e : -d * (w * w) = v * v) : w = 0 := by
  obtain ⟨i, hi⟩ := h.i
  exact h.nosq (v := i * v) (by grind)

theorem ed_key {d x1 y1 x2 y2 s i t : F} (hi : i * i = -1) (ht : t * t = 1) (h1 : y1 * y1 - x1 * x1 = 1 + d * x1 * x1 * y1 * y1) (h2 : y2 * y2 - x2 * x2 = 1 + d * x2 * x2 * y2 * y2) (hs : s * s = 1)
    (e : d * x1 * x2 * y1 * y2 = s) : (i * x1 + t * s * y1) * (i * x1 + t * s * y1) = d * ((x1 * y1) * (x1 * y1)) * ((i * x2 + t * y2) * (i * x2 + t * y2)) := by
  have a1 : (i * x1 + t * s * y1) * (i * x1 + t * s * y1) = i * i * (x1 * x1) + (t * t) * (s * s) * (y1 * y1) + 2 * i * t * s * x1 * y1 := by grind
  have a2 : d * ((x1 * y1) * (x1 * y1)) * ((i * x2 + t * y2) * (i * x2 + t * y2)) = d * x1 * x1 * y1 * y1 * (i * i * (x2 * x2) + t * t * (y2 * y2)) + 2 * i * t * x1 * y1 * (d * x1 * x2 * y1 * y2) := by grind
  have a3 : d * x1 * x1 * y1 * y1 * (d * x2 * x2 * y2 * y2) = s * s := by grind
  rw [a1, a2, e, hi, ht, hs]
  have a4 : d * x1 * x1 * y1 * y1 * (-1 * (x2 * x2) + 1 * (y2 * y2)) = d * x1 * x1 * y1 * y1 * (1 + d * x2 * x2 * y2 * y2) := by rw [← h2]; grind
  rw [a4]
  have a5 : d * x1 * x1 * y1 * y1 * (1 + d * x2 * x2 * y2 * y2) = d * x1 * x1 * y1 * y1 + 1 := by rw [← hs, ← a3]; grind
  rw [a5]
  have a6 : y1 * y1 = x1 * x1 + (1 + d * x1 * x1 * y1 * y1) := by rw [← h1]; grind
  clear a1 a2 a3 a4 a5 h1 h2
  rw [a6]
  grind

theorem ed_complete {d : F} (h : EdGood d) {x1 y1 x2 y2 s : F} (h1 : EdOn d x1 y1) (h2 : EdOn d x2 y2) (hs : s * s = 1) : d * x1 * x2 * y1 * y2 ≠ s := by
  intro e
  obtain ⟨i, hi⟩ := h.i
  have k1 := ed_key (t := 1) hi (by grind) h1 h2 hs e
  have k2 := ed_key (t := -1) hi (by grind) h1 h2 hs e
  have k3 : x1 * y1 * (i * x2 + 1 * y2) = 0 := h.nosq (v := i * x1 + 1 * s * y1) (by rw [k1]; clear k1 k2 e h1 h2 hs hi; grind)
  have k4 : x1 * y1 * (i * x2 + -1 * y2) = 0 := h.nosq (v := i * x1 + -1 * s * y1) (by rw [k2]; clear k1 k2 e h1 h2 hs hi; grind)
  clear k1 k2 h1 h2
  have h2' := h.two
  have s0 : s ≠ 0 := by grind
  have n1 : x1 ≠ 0 := by grind
  have n2 : y1 ≠ 0 := by grind
  have n3 : x2 ≠ 0 := by grind
  clear e hs
  have k5 : i * x2 + 1 * y2 = 0 := by grind
  have k6 : i * x2 + -1 * y2 = 0 := by grind
  grind

theorem ed_den {d : F} (h : EdGood d) {x1 y1 x2 y2 : F} (h1 : EdOn d x1 y1) (h2 : EdOn d x2 y2) : 1 + d * x1 * x2 * y1 * y2 ≠ 0 ∧ 1 - d * x1 * x2 * y1 * y2 ≠ 0 := by
  have a := ed_complete h h1 h2 (s := 1) (by grind)
  have b := ed_complete h h1 h2 (s := -1) (by grind)
  generalize d * x1 * x2 * y1 * y2 = m at *
  exact ⟨by grind, by grind⟩

theorem ed_on_key {d x1 y1 x2 y2 : F} (h1 : EdOn d x1 y1) (h2 : EdOn d x2 y2) :
    (y1 * y2 + x1 * x2) * (y1 * y2 + x1 * x2) * ((1 + d * x1 * x2 * y1 * y2) * (1 + d * x1 * x2 * y1 * y2)) - (x1 * y2 + x2 * y1) * (x1 * y2 + x2 * y1) * ((1 - d * x1 * x2 * y1 * y2) * (1 - d * x1 * x2 * y1 * y2))
    = ((1 + d * x1 * x2 * y1 * y2) * (1 + d * x1 * x2 * y1 * y2)) * ((1 - d * x1 * x2 * y1 * y2) * (1 - d * x1 * x2 * y1 * y2)) + d * ((x1 * y2 + x2 * y1) * (x1 * y2 + x2 * y1)) * ((y1 * y2 + x1 * x2) * (y1 * y2 + x1 * x2)) := by
  unfold EdOn at *
  grind

theorem ed_on_div {d a b P M : F} (hP : P ≠ 0) (hM : M ≠ 0) (k : b * b * (P * P) - a * a * (M * M) = P * P * (M * M) + d * (a * a) * (b * b)) : EdOn d (a * P⁻¹) (b * M⁻¹) := by
  unfold EdOn
  have h1 : P * P⁻¹ = 1 := by grind
  have h2 : M * M⁻¹ = 1 := by grind
  generalize P⁻¹ = u at *
  generalize M⁻¹ = v at *
  have e : (b * b * (P * P) - a * a * (M * M)) * (u * u * v * v) = (P * P * (M * M) + d * (a * a) * (b * b)) * (u * u * v * v) := by rw [k]
  clear k hP hM
  have e1 : b * b * (P * P) * (u * u * v * v) = b * b * ((P * u) * (P * u)) * (v * v) := by grind
  have e2 : a * a * (M * M) * (u * u * v * v) = a * a * ((M * v) * (M * v)) * (u * u) := by grind
  have e3 : P * P * (M * M) * (u * u * v * v) = ((P * u) * (P * u)) * ((M * v) * (M * v)) := by grind
  rw [h1] at e1 e3
  rw [h2] at e2 e3
  clear h1 h2
  grind

theorem ed_on {d : F} (h : EdGood d) {p q : F × F} (h1 : EdOn d p.1 p.2) (h2 : EdOn d q.1 q.2) : EdOn d (edAdd d p q).1 (edAdd d p q).2 := by
  obtain ⟨n1, n2⟩ := ed_den h h1 h2
  have k := ed_on_key h1 h2
  unfold edAdd
  simp only
  refine ed_on_div n1 n2 ?_
  have e : p.1 * q.2 + p.2 * q.1 = p.1 * q.2 + q.1 * p.2 := by grind
  rw [e]
  exact k

theorem ed_x {d x1 y1 x2 y2 x3 y3 : F} (e1 : EdOn d x1 y1) (e2 : EdOn d x2 y2) (e3 : EdOn d x3 y3) :
   ((x1*y2+y1*x2)*(1-d*x1*x2*y1*y2)*y3 + (y1*y2+x1*x2)*(1+d*x1*x2*y1*y2)*x3) * ((1+d*x2*x3*y2*y3)*(1-d*x2*x3*y2*y3) + d*x1*y1*(x2*y3+y2*x3)*(y2*y3+x2*x3))
   = (x1*(y2*y3+x2*x3)*(1+d*x2*x3*y2*y3) + y1*(x2*y3+y2*x3)*(1-d*x2*x3*y2*y3)) * ((1+d*x1*x2*y1*y2)*(1-d*x1*x2*y1*y2) + d*x3*y3*(x1*y2+y1*x2)*(y1*y2+x1*x2)) := by
  unfold EdOn at *
  grind

theorem ed_y {d x1 y1 x2 y2 x3 y3 : F} (e1 : EdOn d x1 y1) (e2 : EdOn d x2 y2) (e3 : EdOn d x3 y3) :
   ((y1*y2+x1*x2)*(1+d*x1*x2*y1*y2)*y3 + (x1*y2+y1*x2)*(1-d*x1*x2*y1*y2)*x3) * ((1+d*x2*x3*y2*y3)*(1-d*x2*x3*y2*y3) - d*x1*y1*(x2*y3+y2*x3)*(y2*y3+x2*x3))
   = (y1*(y2*y3+x2*x3)*(1+d*x2*x3*y2*y3) + x1*(x2*y3+y2*x3)*(1-d*x2*x3*y2*y3)) * ((1+d*x1*x2*y1*y2)*(1-d*x1*x2*y1*y2) - d*x3*y3*(x1*y2+y1*x2)*(y1*y2+x1*x2)) := by
  unfold EdOn at *
  grind

/-- The outer sum, its inner one being a / P, b / M. -/
theorem ed_outer {d a b P M x y : F} (hP : P ≠ 0) (hM : M ≠ 0) :
    (a * P⁻¹ * y + b * M⁻¹ * x) * (P * M) = a * M * y + b * P * x ∧ (b * M⁻¹ * y + a * P⁻¹ * x) * (P * M) = b * P * y + a * M * x ∧
    d * (a * P⁻¹) * x * (b * M⁻¹) * y * (P * M) = d * x * y * a * b := by
  refine ⟨by grind, by grind, by grind⟩

theorem ed_quot {A B A' B' K K' s t : F} (h1 : s * K = A) (h2 : t * K = B) (hK : K ≠ 0) {s' t' : F} (h1' : s' * K' = A') (h2' : t' * K' = B') (hK' : K' ≠ 0) (ht : t ≠ 0) (ht' : t' ≠ 0)
    (e : A * B' = A' * B) : s * t⁻¹ = s' * t'⁻¹ := by
  have e2 : (s * t') * (K * K') = (s' * t) * (K * K') := by
    have : (s * K) * (t' * K') = (s' * K') * (t * K) := by rw [h1, h2', h1', h2]; exact e
    clear e h1 h2 h1' h2'
    grind
  have e3 : s * t' = s' * t := by clear e h1 h2 h1' h2'; grind
  clear e e2 h1 h2 h1' h2'
  grind

theorem ed_assoc {d : F} (h : EdGood d) {p q r : F × F} (h1 : EdOn d p.1 p.2) (h2 : EdOn d q.1 q.2) (h3 : EdOn d r.1 r.2) :
    edAdd d (edAdd d p q) r = edAdd d p (edAdd d q r) := by
  obtain ⟨a1, a2⟩ := ed_den h h1 h2
  obtain ⟨b1, b2⟩ := ed_den h h2 h3
  obtain ⟨c1, c2⟩ := ed_den h (ed_on h h1 h2) h3
  obtain ⟨f1, f2⟩ := ed_den h h1 (ed_on h h2 h3)
  have kx := ed_x h1 h2 h3
  have ky := ed_y h1 h2 h3
  obtain ⟨x1, y1⟩ := p
  obtain ⟨x2, y2⟩ := q
  obtain ⟨x3, y3⟩ := r
  simp only [edAdd] at *
  clear h1 h2 h3 h
  generalize x1 * y2 + y1 * x2 = a at *
  generalize y1 * y2 + x1 * x2 = b at *
  generalize x2 * y3 + y2 * x3 = a' at *
  generalize y2 * y3 + x2 * x3 = b' at *
  generalize 1 + d * x1 * x2 * y1 * y2 = P at *
  generalize 1 - d * x1 * x2 * y1 * y2 = M at *
  generalize 1 + d * x2 * x3 * y2 * y3 = P' at *
  generalize 1 - d * x2 * x3 * y2 * y3 = M' at *
  obtain ⟨o1, o2, o3⟩ := ed_outer (d := d) (a := a) (b := b) (x := x3) (y := y3) a1 a2
  obtain ⟨r1, r2, r3⟩ := ed_outer (d := d) (a := a') (b := b') (x := x1) (y := y1) b1 b2
  have hK : P * M ≠ 0 := by clear kx ky o1 o2 o3 r1 r2 r3; grind
  have hK' : P' * M' ≠ 0 := by clear kx ky o1 o2 o3 r1 r2 r3; grind
  congr 1
  · refine ed_quot o1 (B := P * M + d * x3 * y3 * a * b) ?_ hK (K' := P' * M') (A' := x1 * b' * P' + y1 * a' * M') (B' := P' * M' + d * x1 * y1 * a' * b') ?_ ?_ hK' c1 f1 ?_
    · rw [← o3]; clear kx ky o1 o2 o3 r1 r2 r3; grind
    · clear kx ky o1 o2 o3; clear r2 r3 c1 c2 f1 f2; grind
    · rw [← r3]; clear kx ky o1 o2 o3 r1 r2 r3 c1 c2 f1 f2; grind
    · clear ky o1 o2 o3 r1 r2 r3 c1 c2 f1 f2; grind
  · refine ed_quot o2 (B := P * M - d * x3 * y3 * a * b) ?_ hK (K' := P' * M') (A' := y1 * b' * P' + x1 * a' * M') (B' := P' * M' - d * x1 * y1 * a' * b') ?_ ?_ hK' c2 f2 ?_
    · rw [← o3]; clear kx ky o1 o2 o3 r1 r2 r3; grind
    · clear kx ky o1 o2 o3; clear r1 r3 c1 c2 f1 f2; grind
    · rw [← r3]; clear kx ky o1 o2 o3 r1 r2 r3 c1 c2 f1 f2; grind
    · clear kx o1 o2 o3 r1 r2 r3 c1 c2 f1 f2; grind
end

end Go.Proofs.Ytfdlblckmlbhoaa.Plain
