/- Things that are added, with one that changes nothing: how often one is taken may be put together from parts. -/
namespace Go.Proofs.Ytfdlblckmlbhoaa.Plain
set_option linter.unusedVariables false
set_option linter.unusedSimpArgs false

structure Grp (G : Type) where
  add : G → G → G
  zero : G
  on : G → Prop
  on_zero : on zero
  on_add : ∀ {p q : G}, on p → on q → on (add p q)
  assoc : ∀ {p q r : G}, on p → on q → on r → add (add p q) r = add p (add q r)
  comm : ∀ {p q : G}, on p → on q → add p q = add q p
  zero_add : ∀ {p : G}, on p → add zero p = p

namespace Grp
variable {G : Type} (g : Grp G)
/-- One taken n times. -/
def smul : Nat → G → G
  | 0, _ => g.zero
  | n + 1, p => g.add (smul n p) p

theorem add_zero {p : G} (h : g.on p) : g.add p g.zero = p := by rw [g.comm h g.on_zero, g.zero_add h]

theorem on_smul {p : G} (h : g.on p) : ∀ n, g.on (g.smul n p)
  | 0 => g.on_zero
  | n + 1 => g.on_add (on_smul h n) h

theorem smul_add {p : G} (h : g.on p) (m : Nat) : ∀ n, g.smul (m + n) p = g.add (g.smul m p) (g.smul n p)
  | 0 => (g.add_zero (g.on_smul h m)).symm
  | n + 1 => by
    show g.add (g.smul (m + n) p) p = g.add (g.smul m p) (g.add (g.smul n p) p)
    rw [smul_add h m n, g.assoc (g.on_smul h m) (g.on_smul h n) h]

theorem smul_one {p : G} (h : g.on p) : g.smul 1 p = p := g.zero_add h

theorem smul_dbl {p : G} (h : g.on p) : ∀ n, g.smul n (g.add p p) = g.smul (2 * n) p
  | 0 => rfl
  | n + 1 => by
    show g.add (g.smul n (g.add p p)) (g.add p p) = _
    rw [smul_dbl h n, ← g.assoc (g.on_smul h _) h h]
    rfl

theorem smul_zero : ∀ n, g.smul n g.zero = g.zero
  | 0 => rfl
  | n + 1 => by
    show g.add (g.smul n g.zero) g.zero = _
    rw [smul_zero n, g.zero_add g.on_zero]

theorem smul_mul {p : G} (h : g.on p) (m : Nat) : ∀ n, g.smul (m * n) p = g.smul n (g.smul m p)
  | 0 => rfl
  | n + 1 => by
    rw [Nat.mul_succ, g.smul_add h, smul_mul h m n]
    rfl

/-- The two ways to take one often: from the highest bit on .. -/
theorem step_up {p : G} (h : g.on p) (q : Nat) : g.add (g.smul q p) (g.smul q p) = g.smul (2 * q) p := by
  rw [Nat.two_mul, g.smul_add h]

theorem step_up1 {p : G} (h : g.on p) (q : Nat) : g.add (g.add (g.smul q p) (g.smul q p)) p = g.smul (2 * q + 1) p := by
  rw [g.step_up h]
  rfl

/-- .. and from the lowest one on. -/
theorem step_down {o p : G} (h : g.on p) (e : Nat) : g.add o (g.smul e (g.add p p)) = g.add o (g.smul (2 * e) p) := by rw [g.smul_dbl h]

theorem step_down1 {o p : G} (ho : g.on o) (h : g.on p) (e : Nat) : g.add (g.add o p) (g.smul e (g.add p p)) = g.add o (g.smul (2 * e + 1) p) := by
  rw [g.smul_dbl h, g.assoc ho h (g.on_smul h _), g.comm h (g.on_smul h _)]
  rfl
end Grp

end Go.Proofs.Ytfdlblckmlbhoaa.Plain
