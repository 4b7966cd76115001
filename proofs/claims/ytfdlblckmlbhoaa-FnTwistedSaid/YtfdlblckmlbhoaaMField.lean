/- The numbers by a prime number are a field; a number's power by one less than the prime leaves 1. -/
import Derived.Test.YtfdlblckmlbhoaaMInv
namespace Go.Proofs.Ytfdlblckmlbhoaa.Plain
set_option linter.unusedVariables false
set_option linter.unusedSimpArgs false

open Lean.Grind

/-- A prime number, as it is found by trying. -/
def Prm (p : Int) : Prop := 2 ≤ p ∧ ∀ d : Int, 2 ≤ d → d * d ≤ p → ¬ d ∣ p

theorem Prm.dvd {p : Int} (h : Prm p) {d : Int} (hd : 0 < d) (hdp : d ∣ p) : d = 1 ∨ d = p := by
  obtain ⟨h2, h⟩ := h
  by_cases h1 : d = 1
  · exact .inl h1
  right
  obtain ⟨c, hc⟩ := hdp
  have hc0 : 0 < c := by
    rcases Int.lt_or_le 0 c with h3 | h3
    · exact h3
    · have := Int.mul_nonneg (show 0 ≤ d by omega) (show 0 ≤ -c by omega)
      have e : d * -c = -(d * c) := by grind
      omega
  by_cases hc1 : c = 1
  · subst hc1; omega
  exfalso
  rcases Int.le_total d c with h3 | h3
  · exact h d (by omega) (by rw [hc]; exact Int.mul_le_mul_of_nonneg_left h3 (by omega)) ⟨c, hc⟩
  · exact h c (by omega) (by rw [hc]; exact Int.mul_le_mul_of_nonneg_right h3 (by omega)) ⟨d, by rw [hc]; grind⟩

theorem EuInv.ends {a m : Int} : ∀ (n : Nat) (last left before now : Int), left.toNat ≤ n → EuInv a m last left before now → ∃ last before now, EuInv a m last 0 before now := by
  intro n
  induction n with
  | zero =>
    intro last left before now hn h
    have := h.l0
    obtain rfl : left = 0 := by omega
    exact ⟨_, _, _, h⟩
  | succ n ih =>
    intro last left before now hn h
    by_cases h0 : left = 0
    · subst h0; exact ⟨_, _, _, h⟩
    · have := h.l0
      have h' := h.step (by omega)
      exact ih _ _ _ _ (by have := h'.lt; have := h'.l0; omega) h'

theorem InvIs.total (a : Int) {m : Int} (hm : 2 ≤ m) : ∃ r b, InvIs a m r b := by
  obtain ⟨last, before, now, h⟩ := EuInv.ends (a % m).toNat m (a % m) 0 1 (by omega) (EuInv.start hm)
  by_cases h1 : last = 1
  · exact ⟨_, _, h.one hm h1⟩
  · exact ⟨_, _, h.more h1⟩

theorem Prm.inverse {p : Int} (h : Prm p) {a : Int} (ha : ¬ p ∣ a) : ∃ x, p ∣ a * x - 1 := by
  obtain ⟨last, before, now, k⟩ := EuInv.ends (a % p).toNat p (a % p) 0 1 (by omega) (EuInv.start h.1)
  obtain ⟨d1, d2⟩ := (k.gc last).1 ⟨Int.dvd_refl _, Int.dvd_zero _⟩
  have hl := k.l1
  rcases h.dvd (by omega) d1 with h1 | h1
  · rcases k.one h.1 h1 with ⟨_, _, _, h2⟩ | ⟨h2, _⟩
    · exact ⟨_, h2⟩
    · cases h2
  · subst h1; exact absurd d2 ha

theorem Prm.mul {p : Int} (h : Prm p) {a b : Int} (hab : p ∣ a * b) : p ∣ a ∨ p ∣ b := by
  by_cases ha : p ∣ a
  · exact .inl ha
  · right
    obtain ⟨x, u, hu⟩ := h.inverse ha
    obtain ⟨v, hv⟩ := hab
    exact ⟨v * x - b * u, by grind⟩

/-- A whole number as a number of the field. -/
def toF {F : Type} [Field F] (x : Int) : F := Ring.intCast.intCast x

section
variable {F : Type} [Field F]
theorem toF_add (x y : Int) : (toF (x + y) : F) = toF x + toF y := Ring.intCast_add x y
theorem toF_mul (x y : Int) : (toF (x * y) : F) = toF x * toF y := Ring.intCast_mul x y
theorem toF_neg (x : Int) : (toF (-x) : F) = -toF x := Ring.intCast_neg x
theorem toF_sub (x y : Int) : (toF (x - y) : F) = toF x - toF y := by rw [Int.sub_eq_add_neg, toF_add, toF_neg]; grind
theorem toF_zero : (toF 0 : F) = 0 := Ring.intCast_ofNat 0
theorem toF_one : (toF 1 : F) = 1 := Ring.intCast_ofNat 1
theorem toF_two : (toF 2 : F) = 2 := Ring.intCast_ofNat 2
theorem toF_nat (n : Nat) : (toF (OfNat.ofNat n) : F) = OfNat.ofNat n := Ring.intCast_ofNat n
theorem toF_pow (x : Int) (n : Nat) : (toF (x ^ n) : F) = toF x ^ n := by
  induction n with
  | zero => rw [Int.pow_zero, toF_one]; exact (Semiring.pow_zero _).symm
  | succ n ih => rw [Int.pow_succ, toF_mul, ih]; exact (Semiring.pow_succ _ _).symm
end

/-- The field of the numbers by p. -/
structure Fld (p : Int) where
  F : Type
  field : Field F
  dec : DecidableEq F
  ker : ∀ x : Int, (toF x : F) = 0 ↔ p ∣ x
  surj : ∀ a : F, ∃ x : Int, 0 ≤ x ∧ x < p ∧ toF x = a
  fermat : ∀ a : F, a ≠ 0 → a ^ (p - 1).toNat = 1

section
variable {n : Nat} [NeZero n]
def finF (x : Int) : Fin n := Ring.intCast.intCast x
theorem finF_mul (x y : Int) : (finF (x * y) : Fin n) = finF x * finF y := Ring.intCast_mul x y
theorem finF_sub (x y : Int) : (finF (x - y) : Fin n) = finF x - finF y := Ring.intCast_sub x y
theorem finF_one : (finF 1 : Fin n) = 1 := Ring.intCast_ofNat 1
theorem finF_zero : (finF 0 : Fin n) = 0 := Ring.intCast_ofNat 0
theorem fin_ker (x : Int) : (finF x : Fin n) = 0 ↔ (n : Int) ∣ x := by
  rw [finF, IsCharP.intCast_eq_zero_iff n]
  exact (Int.dvd_iff_emod_eq_zero).symm
theorem fin_surj (a : Fin n) : (finF ((a.val : Nat) : Int) : Fin n) = a := by
  have h := Ring.intCast_ofNat (α := Fin n) a.val
  refine h.trans ?_
  show Fin.ofNat n a.val = a
  apply Fin.ext
  exact Nat.mod_eq_of_lt a.isLt
end

/-- A product over a list. -/
def prod {F : Type} [Field F] : List F → F
  | [] => 1
  | a :: l => a * prod l

section
variable {F : Type} [Field F]
theorem prod_perm {l m : List F} (h : l.Perm m) : prod l = prod m := by
  induction h with
  | nil => rfl
  | cons a _ ih => simp only [prod, ih]
  | swap a b l => simp only [prod]; grind
  | trans _ _ ih1 ih2 => rw [ih1, ih2]
theorem prod_map (a : F) (l : List F) : prod (l.map (a * ·)) = a ^ l.length * prod l := by
  induction l with
  | nil => simp only [List.map, prod, List.length]; grind
  | cons b l ih => simp only [List.map, prod, List.length, ih]; grind
theorem prod_ne {l : List F} (h : ∀ a ∈ l, a ≠ 0) : prod l ≠ 0 := by
  induction l with
  | nil => simp only [prod]; grind
  | cons b l ih =>
    have h1 := h b (List.mem_cons_self ..)
    have h2 := ih (fun a ha => h a (List.mem_cons_of_mem _ ha))
    simp only [prod]; grind

/-- All but nought, in a list: a number's power by the list's length is 1. -/
theorem fermat_list {l : List F} (hn : l.Nodup) (hm : ∀ a : F, a ∈ l ↔ a ≠ 0) {a : F} (ha : a ≠ 0) : a ^ l.length = 1 := by
  have h1 : (l.map (a * ·)).Nodup := List.pairwise_map.2 (List.Pairwise.imp (fun {x y} h e => h (by grind)) hn)
  have h2 : (l.map (a * ·)).Perm l := by
    rw [List.perm_ext_iff_of_nodup h1 hn]
    intro b
    rw [hm, List.mem_map]
    constructor
    · rintro ⟨c, hc, rfl⟩
      rw [hm] at hc
      grind
    · intro hb
      exact ⟨a⁻¹ * b, by rw [hm]; grind, by grind⟩
  have h3 := prod_perm h2
  rw [prod_map] at h3
  have h4 : prod l ≠ 0 := prod_ne fun b hb => (hm b).1 hb
  grind
end

/-- The numbers by a prime number, as a field. -/
@[reducible] noncomputable def fldOf {n : Nat} [NeZero n] (hp : Prm n) : Field (Fin n) :=
  have inv : ∀ a : Fin n, ∃ b : Fin n, (a = 0 → b = 0) ∧ (a ≠ 0 → a * b = 1) := by
    intro a
    by_cases h : a = 0
    · exact ⟨0, fun _ => rfl, fun k => absurd h k⟩
    · have h1 : ¬ (n : Int) ∣ (a.val : Int) := by rw [← fin_ker (n := n), fin_surj]; exact h
      obtain ⟨x, hx⟩ := hp.inverse h1
      refine ⟨finF x, fun k => absurd k h, fun _ => ?_⟩
      rw [← fin_ker (n := n), finF_sub, finF_mul, fin_surj, finF_one] at hx
      grind
  let iv : Inv (Fin n) := ⟨fun a => (inv a).choose⟩
  let zp : HPow (Fin n) Int (Fin n) := ⟨fun a z => match z with | .ofNat k => a ^ k | .negSucc k => iv.inv (a ^ (k + 1))⟩
  have inv0 : iv.inv 0 = 0 := (inv 0).choose_spec.1 rfl
  have invc : ∀ {a : Fin n}, a ≠ 0 → a * iv.inv a = 1 := fun {a} h => (inv a).choose_spec.2 h
  have invinv : ∀ a : Fin n, iv.inv (iv.inv a) = a := by
    intro a
    by_cases h : a = 0
    · rw [h, inv0, inv0]
    · have h1 := invc h
      by_cases h2 : iv.inv a = 0
      · rw [h2] at h1 ⊢; rw [inv0]; grind
      · have h3 := invc h2; grind
  { toInv := iv
    toDiv := ⟨fun a b => a * iv.inv b⟩
    zpow := zp
    div_eq_mul_inv := fun a b => rfl
    zero_ne_one := by
      intro h
      have := (fin_ker (n := n) 1).1 (by rw [finF_one]; exact h.symm)
      have h2 := Int.le_of_dvd (by omega) this
      have := hp.1
      omega
    inv_zero := inv0
    mul_inv_cancel := invc
    zpow_zero := fun a => Semiring.pow_zero a
    zpow_succ := fun a k => Semiring.pow_succ a k
    zpow_neg := fun a z => by
      cases z with
      | ofNat k =>
        cases k with
        | zero =>
          have h1 : (1 : Fin n) ≠ 0 := by
            intro h
            have := (fin_ker (n := n) 1).1 (by rw [finF_one]; exact h)
            have h2 := Int.le_of_dvd (by omega) this
            have := hp.1
            omega
          have h3 := invc h1
          have e0 : ∀ z : Fin n, z = 1 → z = iv.inv z := by
            intro z hz
            subst hz
            grind
          exact e0 _ (Semiring.pow_zero a)
        | succ k => rfl
      | negSucc k => exact (invinv _).symm }

theorem fldOf_exists {p : Int} (hp : Prm p) : Nonempty (Fld p) := by
  have h2 := hp.1
  obtain ⟨n, rfl⟩ : ∃ n : Nat, p = n := ⟨p.toNat, by omega⟩
  haveI : NeZero n := ⟨by omega⟩
  let inst : Field (Fin n) := fldOf hp
  refine ⟨⟨Fin n, inst, inferInstance, fun x => fin_ker x, fun a => ⟨(a.val : Int), by omega, by have := a.isLt; omega, fin_surj a⟩, fun a ha => ?_⟩⟩
  have hl : ((List.finRange n).erase 0).length = ((n : Int) - 1).toNat := by
    rw [List.length_erase_of_mem (List.mem_finRange 0), List.length_finRange]
    omega
  rw [← hl]
  refine fermat_list (List.Nodup.erase 0 (List.nodup_finRange n)) (fun b => ?_) ha
  rw [List.Nodup.mem_erase_iff (List.nodup_finRange n)]
  exact ⟨fun h => h.1, fun h => ⟨h, List.mem_finRange b⟩⟩

attribute [instance] Fld.field Fld.dec

section
variable {p : Int} (K : Fld p)
theorem Fld.eq (x y : Int) : (toF x : K.F) = toF y ↔ p ∣ x - y := by
  rw [← K.ker, toF_sub]
  constructor
  · intro h; grind
  · intro h; grind
theorem Fld.emod (x : Int) : (toF (x % p) : K.F) = toF x := by
  rw [K.eq]
  exact ⟨-(x / p), by have := Int.emod_add_ediv_mul x p; grind⟩
theorem Fld.inj {x y : Int} (hx : 0 ≤ x) (hx' : x < p) (hy : 0 ≤ y) (hy' : y < p) (h : (toF x : K.F) = toF y) : x = y := by
  rw [K.eq] at h
  have := Int.eq_zero_of_dvd_of_natAbs_lt_natAbs h (by omega)
  omega
end

end Go.Proofs.Ytfdlblckmlbhoaa.Plain
