/- The sum of points of a curve over a field: it may be turned about and put together otherwise. -/
namespace Go.Proofs.Ytfdlblckmlbhoaa.Plain
set_option linter.unusedVariables false
set_option linter.unusedSimpArgs false

open Lean.Grind
section
variable {F : Type} [Field F]

def On (a b x y : F) : Prop := y * y = x * x * x + a * x + b
/-- l is the slope through (x, y) and (u, v), a tangent's where they are one. -/
def Sl (a x y u v l : F) : Prop := l * (x - u) = y - v ∧ l * (y + v) = x * x + x * u + u * u + a

theorem Sl.symm {a x y u v l : F} (h : Sl a x y u v l) : Sl a u v x y l := by
  obtain ⟨h1, h2⟩ := h
  exact ⟨by grind, by grind⟩

theorem Sl.chord {a b x y u v l : F} (hx : On a b x y) (hu : On a b u v) (h : l * (x - u) = y - v) (hne : x ≠ u) : Sl a x y u v l := by
  refine ⟨h, ?_⟩
  unfold On at hx hu
  have : (x - u) * (l * (y + v) - (x * x + x * u + u * u + a)) = 0 := by grind
  grind

theorem Sl.tangent {a x y l : F} (h : l * (2 * y) = 3 * x * x + a) : Sl a x y x y l := ⟨by grind, by grind⟩

theorem Sl.unique {a x y u v l m : F} (h : Sl a x y u v l) (k : Sl a x y u v m) (hn : ¬ (x = u ∧ y + v = 0)) : l = m := by
  obtain ⟨h1, h2⟩ := h
  obtain ⟨k1, k2⟩ := k
  by_cases e : x = u
  · have : y + v ≠ 0 := fun h => hn ⟨e, h⟩
    grind
  · grind

theorem Sl.on {a b x y u v l : F} (hx : On a b x y) (h : Sl a x y u v l) : On a b (l * l - x - u) (l * (x - (l * l - x - u)) - y) := by
  obtain ⟨h1, h2⟩ := h
  unfold On at *
  grind

theorem Sl.third {a x y u v l : F} (h : Sl a x y u v l) : Sl a (l * l - x - u) (l * (x - (l * l - x - u)) - y) u (-v) (-l) := by
  obtain ⟨h1, h2⟩ := h
  exact ⟨by grind, by grind⟩

inductive Pt (F : Type) where
  | far : Pt F
  | at : F → F → Pt F
  deriving DecidableEq

variable [DecidableEq F]

def slope (a x y u v : F) : F := if x = u then (3 * x * x + a) * (2 * y)⁻¹ else (y - v) * (x - u)⁻¹
def third (x y u l : F) : Pt F := .at (l * l - x - u) (l * (x - (l * l - x - u)) - y)

def Pt.add (a : F) : Pt F → Pt F → Pt F
  | .far, q => q
  | p, .far => p
  | .at x y, .at u v => if x = u ∧ y + v = 0 then .far else third x y u (slope a x y u v)

def Pt.neg : Pt F → Pt F
  | .far => .far
  | .at x y => .at x (-y)

def Pt.on (a b : F) : Pt F → Prop
  | .far => True
  | .at x y => On a b x y

theorem Pt.far_add (a : F) (q : Pt F) : Pt.add a .far q = q := by cases q <;> rfl
theorem Pt.add_far (a : F) (q : Pt F) : Pt.add a q .far = q := by cases q <;> rfl

theorem slope_sl {a b x y u v : F} (hx : On a b x y) (hu : On a b u v) (hn : ¬ (x = u ∧ y + v = 0)) : Sl a x y u v (slope a x y u v) := by
  unfold slope
  by_cases e : x = u
  · rw [if_pos e]
    subst e
    have h1 : y + v ≠ 0 := fun h => hn ⟨rfl, h⟩
    have h2 : y = v := by
      unfold On at hx hu
      have : (y + v) * (y - v) = 0 := by grind
      grind
    subst h2
    exact Sl.tangent (by grind)
  · rw [if_neg e]
    exact Sl.chord hx hu (by grind) e

theorem add_of_sl {a b x y u v l : F} (hx : On a b x y) (hu : On a b u v) (hn : ¬ (x = u ∧ y + v = 0)) (h : Sl a x y u v l) :
    Pt.add a (.at x y) (.at u v) = third x y u l := by
  rw [Pt.add, if_neg hn, (slope_sl hx hu hn).unique h hn]

theorem add_neg_far {a x y u v : F} (h : x = u ∧ y + v = 0) : Pt.add a (.at x y) (.at u v) = .far := by rw [Pt.add, if_pos h]

theorem Pt.on_add {a b : F} {p q : Pt F} (hp : p.on a b) (hq : q.on a b) : (Pt.add a p q).on a b := by
  cases p with
  | far => rw [Pt.far_add]; exact hq
  | «at» x y =>
    cases q with
    | far => rw [Pt.add_far]; exact hp
    | «at» u v =>
      by_cases hn : x = u ∧ y + v = 0
      · rw [add_neg_far hn]; exact trivial
      · have hs := slope_sl hp hq hn
        rw [add_of_sl hp hq hn hs]
        exact hs.on hp

omit [DecidableEq F] in
theorem Pt.on_neg {a b : F} {p : Pt F} (hp : p.on a b) : p.neg.on a b := by
  cases p with
  | far => trivial
  | «at» x y => simp only [Pt.on, Pt.neg, On] at *; grind

theorem Pt.add_comm {a b : F} {p q : Pt F} (hp : p.on a b) (hq : q.on a b) : Pt.add a p q = Pt.add a q p := by
  cases p with
  | far => rw [Pt.far_add, Pt.add_far]
  | «at» x y =>
    cases q with
    | far => rw [Pt.far_add, Pt.add_far]
    | «at» u v =>
      by_cases hn : x = u ∧ y + v = 0
      · rw [add_neg_far hn, add_neg_far (by grind)]
      · have hn' : ¬ (u = x ∧ v + y = 0) := by grind
        have hs := slope_sl hp hq hn
        rw [add_of_sl hp hq hn hs, add_of_sl hq hp hn' hs.symm]
        obtain ⟨h1, h2⟩ := hs
        unfold third
        congr 1 <;> grind

/-- P + Q - Q is P, on a curve without a singular point. -/
theorem Pt.add_sub {a b : F} (h2 : (2 : F) ≠ 0) (hd : 4 * a * a * a + 27 * b * b ≠ 0) {p q : Pt F} (hp : p.on a b) (hq : q.on a b) : Pt.add a (Pt.add a p q) q.neg = p := by
  cases q with
  | far => rw [Pt.add_far]; exact Pt.add_far _ _
  | «at» u v =>
    cases p with
    | far =>
      rw [Pt.far_add]
      exact add_neg_far ⟨rfl, by grind⟩
    | «at» x y =>
      by_cases hn : x = u ∧ y + v = 0
      · rw [add_neg_far hn, Pt.far_add]
        simp only [Pt.neg]
        congr 1 <;> grind
      · have hs := slope_sl hp hq hn
        rw [add_of_sl hp hq hn hs]
        generalize slope a x y u v = l at hs
        have ht := hs.third
        have hon := hs.on hp
        unfold third
        simp only [Pt.neg]
        have hq' : On a b u (-v) := by
          have := Pt.on_neg hq
          exact this
        by_cases hm : l * l - x - u = u ∧ l * (x - (l * l - x - u)) - y + -v = 0
        · exfalso
          obtain ⟨m1, m2⟩ := hm
          obtain ⟨t1, t2⟩ := ht
          simp only [Pt.on, On] at hp hq
          generalize l * (x - (l * l - x - u)) - y = t at *
          generalize l * l - x - u = s at *
          subst m1
          have e1 : t = v := by grind
          subst e1
          have e2 : 2 * t = 0 := by grind
          have e3 : 3 * s * s + a = 0 := by grind
          apply hd
          have e4 : t = 0 := by grind
          subst e4
          grind
        · rw [add_of_sl hon hq' hm ht]
          unfold third
          congr 1 <;> grind
omit [DecidableEq F] in
/-- The function of two lines through D vanishes where the first one does. -/
theorem fzero {a x y p q l n : F} (h : Sl a x y p (-q) l) : x * x + (p + l * n) * x - (l + n) * y + (p * p + a + l * q - n * q - l * n * p) = 0 := by
  obtain ⟨h1, h2⟩ := h
  grind

omit [DecidableEq F] in
/-- .. and where the second one does. -/
theorem fzero2 {a x y p q l n : F} (h : Sl a x y p q n) : x * x + (p + l * n) * x - (l + n) * y + (p * p + a + l * q - n * q - l * n * p) = 0 := by
  obtain ⟨h1, h2⟩ := h
  grind

omit [DecidableEq F] in
theorem assoc_core {a b x1 y1 x2 y2 x3 y3 l m n r xd yd xf yf : F} (_h1 : On a b x1 y1) (_h2 : On a b x2 y2) (_h3 : On a b x3 y3)
    (hl : Sl a x1 y1 x2 y2 l) (hm : Sl a x2 y2 x3 y3 m) (hd1 : xd = l * l - x1 - x2) (hd2 : yd = l * (x1 - xd) - y1)
    (hf1 : xf = m * m - x2 - x3) (hf2 : yf = m * (x2 - xf) - y2) (hn : Sl a xd yd x3 y3 n) (hr : Sl a x1 y1 xf yf r)
    (n13 : x1 ≠ x3) (n23 : x2 ≠ x3) (n12 : x1 ≠ x2 ∨ (x1 = x2 ∧ y1 = y2 ∧ y1 + y1 ≠ 0)) (nd : ¬ (xd = x3 ∧ yd + y3 = 0)) :
    n * n - xd - x3 = r * r - x1 - xf ∧ n * (xd - (n * n - xd - x3)) - yd = r * (x1 - (r * r - x1 - xf)) - y1 := by
  -- f at A, B, C
  have la : Sl a x1 y1 xd (-yd) l := by
    have := hl.symm.third; obtain ⟨t1, t2⟩ := this; obtain ⟨s1, s2⟩ := hl
    exact ⟨by grind, by grind⟩
  have lb : Sl a x2 y2 xd (-yd) l := by
    have := hl.third; obtain ⟨t1, t2⟩ := this; obtain ⟨s1, s2⟩ := hl
    exact ⟨by grind, by grind⟩
  have mb : Sl a x2 y2 xf (-yf) m := by
    have := hm.symm.third; obtain ⟨t1, t2⟩ := this; obtain ⟨s1, s2⟩ := hm
    exact ⟨by grind, by grind⟩
  have mc : Sl a x3 y3 xf (-yf) m := by
    have := hm.third; obtain ⟨t1, t2⟩ := this; obtain ⟨s1, s2⟩ := hm
    exact ⟨by grind, by grind⟩
  have fA := fzero (n := n) la
  have fB := fzero (n := n) lb
  have fC := fzero2 (l := l) hn.symm
  have gB := fzero (n := r) mb
  have gC := fzero (n := r) mc
  have gA := fzero2 (l := m) hr
  -- the tangent's case
  have ddf : x1 + x2 + (xd + l * n) - (l + n) * l = 0 := by grind
  have ddg : x1 + x2 + (xf + m * r) - (m + r) * l = 0 := by
    rcases n12 with n12 | ⟨e1, e2, e3⟩
    · have : (x1 - x2) * (x1 + x2 + (xf + m * r) - (m + r) * l) = 0 := by
        obtain ⟨s1, s2⟩ := hl
        grind
      grind
    · subst e1
      subst e2
      obtain ⟨s1, s2⟩ := hl
      obtain ⟨t1, t2⟩ := hm
      obtain ⟨u1, u2⟩ := mb
      obtain ⟨v1, v2⟩ := hr
      have k1 : (m + r) * (x1 - xf) = y1 + y1 := by grind
      have k2 : 3 * x1 * x1 + a - (y1 + y1) * m = (x1 - x3) * (x1 - xf) := by grind
      have k3 : (y1 + y1) * (x1 + x1 + (xf + m * r) - (m + r) * l) = 0 := by grind
      grind
  -- the two functions are one
  have hdel : (l + n) - (m + r) = 0 := by
    have k1 : ((l + n) - (m + r)) * (l * (x1 - x3) - (y1 - y3)) = 0 := by grind
    by_cases k2 : l * (x1 - x3) - (y1 - y3) = 0
    · exfalso
      have k3 : (x3 - x1) * ((x3 - x2) * (x3 - xd)) = 0 := by
        obtain ⟨s1, s2⟩ := hl
        unfold On at *
        have k5 : y3 = y1 + l * (x3 - x1) := by grind
        subst k5
        grind
      have k4 : x3 = xd := by grind
      exact nd ⟨k4.symm, by grind⟩
    · grind
  have heps : xd + l * n = xf + m * r := by grind
  have ex : n * n - xd - x3 = r * r - x1 - xf := by grind
  refine ⟨ex, ?_⟩
  have hgam : l + n ≠ 0 := by
    intro h0
    have k1 : (x3 - x1) * (x3 - x2) = 0 := by grind
    grind
  have tn : Sl a (n * n - xd - x3) (-(n * (xd - (n * n - xd - x3)) - yd)) xd yd n := by
    obtain ⟨t1, t2⟩ := hn.symm.third; obtain ⟨s1, s2⟩ := hn
    exact ⟨by grind, by grind⟩
  have tr : Sl a (r * r - x1 - xf) (-(r * (x1 - (r * r - x1 - xf)) - y1)) xf yf r := by
    obtain ⟨t1, t2⟩ := hr.third; obtain ⟨s1, s2⟩ := hr
    exact ⟨by grind, by grind⟩
  rw [ex] at tn ⊢
  generalize r * r - x1 - xf = g at *
  generalize n * (xd - g) - yd = u at *
  generalize r * (x1 - g) - y1 = v at *
  have fG := fzero2 (l := l) tn
  have gG := fzero2 (l := m) tr
  have hg : m + r = l + n := by clear fG gG tn tr fA gA ex; grind
  have hc : xf * xf + a + m * yf - r * yf - m * r * xf = xd * xd + a + l * yd - n * yd - l * n * xd := by
    rw [hg, ← heps] at gA
    clear fG gG tn tr _h1 _h2 _h3 hl hm hd1 hd2 hf1 hf2 hn hr n12 la lb mb mc fB fC gB gC ddf ddg ex
    generalize xf * xf + a + m * yf - r * yf - m * r * xf = c at *
    generalize xd * xd + a + l * yd - n * yd - l * n * xd = d at *
    grind
  rw [hc, hg, ← heps] at gG
  have : (l + n) * (u - v) = 0 := by
    clear tn tr _h1 _h2 _h3 hl hm hd1 hd2 hf1 hf2 hn hr n12 la lb mb mc fA fB fC gA gB gC ddf ddg ex
    generalize xd * xd + a + l * yd - n * yd - l * n * xd = d at *
    grind
  clear fG gG tn tr _h1 _h2 _h3 hl hm hd1 hd2 hf1 hf2 hn hr n12 la lb mb mc fA fB fC gA gB gC ddf ddg ex hc hg hdel heps
  grind
theorem Pt.neg_add {a b : F} {p q : Pt F} (hp : p.on a b) (hq : q.on a b) : (Pt.add a p q).neg = Pt.add a p.neg q.neg := by
  cases p with
  | far => simp only [Pt.far_add, Pt.neg]
  | «at» x y =>
    cases q with
    | far => simp only [Pt.add_far, Pt.neg]
    | «at» u v =>
      by_cases hn : x = u ∧ y + v = 0
      · rw [add_neg_far hn]
        simp only [Pt.neg]
        rw [add_neg_far (by obtain ⟨h1, h2⟩ := hn; exact ⟨h1, by grind⟩)]
      · have hs := slope_sl hp hq hn
        rw [add_of_sl hp hq hn hs]
        have hs' : Sl a x (-y) u (-v) (-slope a x y u v) := by
          obtain ⟨h1, h2⟩ := hs
          exact ⟨by grind, by grind⟩
        have hp' := Pt.on_neg hp
        have hq' := Pt.on_neg hq
        simp only [Pt.neg] at hp' hq' ⊢
        rw [add_of_sl hp' hq' (by grind) hs']
        unfold third
        simp only [Pt.neg]
        congr 1 <;> grind

omit [DecidableEq F] in
theorem Pt.neg_neg (p : Pt F) : p.neg.neg = p := by
  cases p with
  | far => rfl
  | «at» x y => simp only [Pt.neg]; congr 1; grind

theorem Pt.add_neg (a : F) (p : Pt F) : Pt.add a p p.neg = .far := by
  cases p with
  | far => rfl
  | «at» x y => exact add_neg_far ⟨rfl, by grind⟩

theorem assoc_generic {a b x1 y1 x2 y2 x3 y3 xd yd xf yf : F} (h1 : On a b x1 y1) (h2 : On a b x2 y2) (h3 : On a b x3 y3)
    (hD : Pt.add a (.at x1 y1) (.at x2 y2) = .at xd yd) (hF : Pt.add a (.at x2 y2) (.at x3 y3) = .at xf yf)
    (nD : ¬ (xd = x3 ∧ yd + y3 = 0)) (nF : ¬ (x1 = xf ∧ y1 + yf = 0))
    (n13 : x1 ≠ x3) (n23 : x2 ≠ x3) (n12 : x1 ≠ x2 ∨ (x1 = x2 ∧ y1 = y2)) :
    Pt.add a (Pt.add a (.at x1 y1) (.at x2 y2)) (.at x3 y3) = Pt.add a (.at x1 y1) (Pt.add a (.at x2 y2) (.at x3 y3)) := by
  have a12 : ¬ (x1 = x2 ∧ y1 + y2 = 0) := fun h => by rw [add_neg_far h] at hD; cases hD
  have a23 : ¬ (x2 = x3 ∧ y2 + y3 = 0) := fun h => n23 h.1
  have oD : On a b xd yd := by have := Pt.on_add (p := .at x1 y1) (q := .at x2 y2) h1 h2; rw [hD] at this; exact this
  have oF : On a b xf yf := by have := Pt.on_add (p := .at x2 y2) (q := .at x3 y3) h2 h3; rw [hF] at this; exact this
  have hl := slope_sl h1 h2 a12
  have hm := slope_sl h2 h3 a23
  have hn := slope_sl oD h3 nD
  have hr := slope_sl h1 oF nF
  rw [hD, hF, add_of_sl oD h3 nD hn, add_of_sl h1 oF nF hr]
  rw [add_of_sl h1 h2 a12 hl] at hD
  rw [add_of_sl h2 h3 a23 hm] at hF
  unfold third at hD hF
  injection hD with d1 d2
  injection hF with f1 f2
  obtain ⟨e1, e2⟩ := assoc_core h1 h2 h3 hl hm d1.symm (by rw [← d2, d1]) f1.symm (by rw [← f2, f1]) hn hr n13 n23
    (by rcases n12 with h | ⟨e1, e2⟩
        · exact .inl h
        · exact .inr ⟨e1, e2, fun h => a12 ⟨e1, by rw [← e2]; exact h⟩⟩) nD
  unfold third
  rw [e1]
  congr 1
  rw [← e1, e2, ← e1]

omit [DecidableEq F] in
theorem same_x {a b x y u v : F} (hx : On a b x y) (hu : On a b u v) (e : x = u) (hn : ¬ (x = u ∧ y + v = 0)) : y = v := by
  subst e
  have h1 : y + v ≠ 0 := fun h => hn ⟨rfl, h⟩
  unfold On at hx hu
  have : (y + v) * (y - v) = 0 := by grind
  grind

/-- THE SUM OF POINTS MAY BE PUT TOGETHER OTHERWISE. -/
theorem Pt.add_assoc {a b : F} (h2 : (2 : F) ≠ 0) (hd : 4 * a * a * a + 27 * b * b ≠ 0) {p q r : Pt F} (hp : p.on a b) (hq : q.on a b) (hr : r.on a b) :
    Pt.add a (Pt.add a p q) r = Pt.add a p (Pt.add a q r) := by
  by_cases e1 : p = .far
  · rw [e1, Pt.far_add, Pt.far_add]
  by_cases e2 : q = .far
  · rw [e2, Pt.add_far, Pt.far_add]
  by_cases e3 : r = .far
  · rw [e3, Pt.add_far, Pt.add_far]
  have oD := Pt.on_add hp hq
  have oF := Pt.on_add hq hr
  by_cases c1 : p = q.neg
  · rw [Pt.add_comm hp oF, Pt.add_comm hq hr, c1, Pt.add_sub h2 hd hr hq, Pt.add_comm (Pt.on_neg hq) hq, Pt.add_neg, Pt.far_add]
  by_cases c2 : r = q.neg
  · rw [c2, Pt.add_sub h2 hd hp hq, Pt.add_neg, Pt.add_far]
  by_cases c3 : r = p.neg
  · have : Pt.add a p (Pt.add a q p.neg) = q := by
      rw [Pt.add_comm hp (Pt.on_add hq (Pt.on_neg hp))]
      have := Pt.add_sub h2 hd hq (Pt.on_neg hp)
      rwa [Pt.neg_neg] at this
    rw [c3, this, Pt.add_comm hp hq, Pt.add_sub h2 hd hq hp]
  by_cases c4 : r = (Pt.add a p q).neg
  · have : Pt.add a q (Pt.add a p q).neg = p.neg := by
      rw [Pt.neg_add hp hq, Pt.add_comm hq (Pt.on_add (Pt.on_neg hp) (Pt.on_neg hq))]
      have := Pt.add_sub h2 hd (Pt.on_neg hp) (Pt.on_neg hq)
      rwa [Pt.neg_neg] at this
    rw [c4, Pt.add_neg, this, Pt.add_neg]
  by_cases c5 : p = (Pt.add a q r).neg
  · have : Pt.add a (Pt.add a q r).neg q = r.neg := by
      rw [Pt.add_comm hq hr, Pt.neg_add hr hq]
      have := Pt.add_sub h2 hd (Pt.on_neg hr) (Pt.on_neg hq)
      rwa [Pt.neg_neg] at this
    rw [c5, this, Pt.add_comm (Pt.on_neg hr) hr, Pt.add_neg, Pt.add_comm (Pt.on_neg oF) oF, Pt.add_neg]
  by_cases c6 : p = r
  · rw [← c6, Pt.add_comm oD hp, Pt.add_comm hp hq]
  -- the ways that are left
  have gen : ∀ {p q r : Pt F}, p.on a b → q.on a b → r.on a b → p ≠ .far → q ≠ .far → r ≠ .far → p ≠ q.neg → r ≠ q.neg → r ≠ p.neg → r ≠ (Pt.add a p q).neg → p ≠ (Pt.add a q r).neg → p ≠ r → q ≠ r →
      Pt.add a (Pt.add a p q) r = Pt.add a p (Pt.add a q r) := by
    intro p q r hp hq hr e1 e2 e3 c1 c2 c3 c4 c5 c6 c7
    obtain ⟨x1, y1, rfl⟩ : ∃ x y, p = .at x y := by cases p with | far => exact absurd rfl e1 | «at» x y => exact ⟨x, y, rfl⟩
    obtain ⟨x2, y2, rfl⟩ : ∃ x y, q = .at x y := by cases q with | far => exact absurd rfl e2 | «at» x y => exact ⟨x, y, rfl⟩
    obtain ⟨x3, y3, rfl⟩ : ∃ x y, r = .at x y := by cases r with | far => exact absurd rfl e3 | «at» x y => exact ⟨x, y, rfl⟩
    have neq : ∀ {x y u v : F}, Pt.at x y ≠ (Pt.at u v).neg → ¬ (x = u ∧ y + v = 0) := by
      intro x y u v h ⟨k1, k2⟩
      apply h
      simp only [Pt.neg]
      congr 1
      grind
    have n12 := neq c1
    have n32 := neq c2
    have n31 := neq c3
    have n13 : ¬ (x1 = x3 ∧ y1 + y3 = 0) := by grind
    have n23 : ¬ (x2 = x3 ∧ y2 + y3 = 0) := by grind
    have hD := add_of_sl hp hq n12 (slope_sl hp hq n12)
    have hF := add_of_sl hq hr n23 (slope_sl hq hr n23)
    unfold third at hD hF
    rw [hD] at c4
    rw [hF] at c5
    have nD := neq c4
    refine assoc_generic hp hq hr hD hF (by grind) (neq c5) ?_ ?_ ?_
    · intro e
      exact c6 (by rw [e, same_x hp hr e n13])
    · intro e
      exact c7 (by rw [e, same_x hq hr e n23])
    · by_cases e : x1 = x2
      · exact .inr ⟨e, same_x hp hq e n12⟩
      · exact .inl e
  by_cases c7 : q = r
  · subst c7
    by_cases c8 : p = q
    · exact absurd c8 c6
    · rw [Pt.add_comm oD hq, Pt.add_comm hp hq, Pt.add_comm hp oF]
      refine (gen hq hq hp e2 e2 e1 (fun h => c2 h) c1 c1 (fun h => c5 h) (fun h => c4 ?_) (fun h => c8 h.symm) (fun h => c8 h.symm)).symm
      rw [Pt.add_comm hp hq]; exact h
  · exact gen hp hq hr e1 e2 e3 c1 c2 c3 c4 c5 c6 c7
end

end Go.Proofs.Ytfdlblckmlbhoaa.Plain
