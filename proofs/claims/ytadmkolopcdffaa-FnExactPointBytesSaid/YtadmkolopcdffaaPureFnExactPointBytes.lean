/- The law FnExactPointBytes answers true at all curves and points: both write the same bytes, and the answer is the call's own. -/
import Derived.Test.YtadmkolopcdffaaPFnExactPointBytesx10
import Derived.Test.YtadmkolopcdffaaMBits
import Derived.Test.YtadmkolopcdffaaMInv
import Derived.Test.YtadmkolopcdffaaMField
import Derived.Test.YtadmkolopcdffaaMRoot
import Derived.Test.YtadmkolopcdffaaMEd
import Derived.Test.YtadmkolopcdffaaMGrp
import Derived.Test.YtadmkolopcdffaaMEdP
import Derived.Test.YtadmkolopcdffaaMCurve
import Derived.Test.YtadmkolopcdffaaMCurP
namespace Go.Proofs.Ytadmkolopcdffaa.Pure
open Go.RowKit Go.Proofs.Ytadmkolopcdffaa.PFnExactPointBytes Go.Proofs.YtadmkolopcdffaaW.PrintWords Go.Proofs.YtadmkolopcdffaaW.PrintLast Go.Proofs.Ytadmkolopcdffaa.Plain

set_option linter.unusedVariables false
set_option linter.unusedSimpArgs false

theorem w64 {n : Int} (h : -9223372036854775808 ≤ n) (h' : n ≤ 9223372036854775807) : wrap64 n = n := by
  unfold wrap64
  omega

theorem wf64 {n : Int} (h : (Lit.int .i64 n).wf = true) : -9223372036854775808 ≤ n ∧ n ≤ 9223372036854775807 := by
  simpa [Lit.wf, IntKind.min, IntKind.max, IntKind.signed, IntKind.bits] using h

theorem wsucc {i : Nat} (h : i ≤ 1099511627776) : wrap64 ((i : Int) + 1) = ((i + 1 : Nat) : Int) := by
  rw [w64 (by omega) (by omega)]
  omega

theorem wpred {i : Nat} (h : i ≤ 1099511627776) : wrap64 (((i + 1 : Nat) : Int) - 1) = (i : Int) := by
  rw [w64 (by omega) (by omega)]
  omega

theorem in_eq (n a b : Int) : spec_l1In.f n a b = some (decide (a ≤ n ∧ n ≤ b)) := by
  unfold spec_l1In.f
  by_cases h : n ≥ a
  · rw [if_pos h]
    have : a ≤ n := h
    simp [this]
  · rw [if_neg h]
    have : ¬ a ≤ n := h
    simp [this]

theorem within_eq (n a b : Int) : impl_within.f n a b = some (decide (a ≤ n ∧ n ≤ b)) := by
  unfold impl_within.f
  by_cases h : n ≥ a
  · rw [if_pos h]
    have : a ≤ n := h
    simp [this]
  · rw [if_neg h]
    have : ¬ a ≤ n := h
    simp [this]

theorem left_eq {a m : Int} (h1 : 0 < m) (h2 : m ≤ 4611686018427387904) : spec_l2Left.f a m = some (a % m) := by
  unfold spec_l2Left.f
  rw [if_neg (by omega)]
  have e0 := Int.tmod_lt_of_pos a h1
  have e1 := Int.lt_tmod_of_pos a h1
  rw [w64 (by omega) (by omega), Int.tmod_eq_emod_of_nonneg (by omega), Int.tmod_eq_emod]
  congr 1
  split
  · simp
  · rw [show a % m - ((m.natAbs : Nat) : Int) + m = a % m by omega, Int.emod_emod]

theorem rest_eq {a m : Int} (h1 : 0 < m) (h2 : m ≤ 4611686018427387904) : impl_rest.f a m = some (a % m) := by
  unfold impl_rest.f
  rw [if_neg (by omega)]
  have e0 := Int.tmod_lt_of_pos a h1
  have e1 := Int.lt_tmod_of_pos a h1
  rw [w64 (by omega) (by omega), Int.tmod_eq_emod_of_nonneg (by omega), Int.tmod_eq_emod]
  congr 1
  split
  · simp
  · rw [show a % m - ((m.natAbs : Nat) : Int) + m = a % m by omega, Int.emod_emod]

theorem specinv_loop (a m : Int) (hm : 2 ≤ m) (hM : m ≤ 1073741824) : ∀ (n : Nat) (last left before now : Int), left.toNat ≤ n → EuInv a m last left before now →
    -m ≤ before → before ≤ m → ∃ r b, InvIs a m r b ∧ Ev (fun k => spec_l2Inv.l0 k m last left before now) r := by
  intro n
  induction n with
  | zero =>
    intro last left before now hn h hb hb'
    have := h.l0
    obtain rfl : left = 0 := by omega
    by_cases h1 : last = 1
    · refine ⟨before % m, true, h.one hm h1, Ev.step (fun k => by rw [spec_l2Inv.l0]) ?_⟩
      subst h1
      simp [left_eq (show 0 < m by omega) (show m ≤ 4611686018427387904 by omega)]
      exact Ev.now _
    · refine ⟨0, false, h.more h1, Ev.step (fun k => by rw [spec_l2Inv.l0]) ?_⟩
      simp [h1]
      exact Ev.now _
  | succ n ih =>
    intro last left before now hn h hb hb'
    by_cases h0 : left = 0
    · exact ih last left before now (by omega) h hb hb'
    · have hp : 0 < left := by have := h.l0; omega
      have h' := h.step hp
      have b1 := h.now_le
      have b2 := h'.now_le
      have l1 := h.l1
      have hl := h.lm
      have q0 : 0 ≤ last / left := Int.ediv_nonneg (by omega) (by omega)
      have q1 : last / left ≤ last := Int.ediv_le_self _ (by omega)
      obtain ⟨r, b, hr, ev⟩ := ih left (last % left) now (before - last / left * now) (by have := h'.lt; have := h'.l0; omega) h' (by omega) (by omega)
      refine ⟨r, b, hr, Ev.step (fun k => by rw [spec_l2Inv.l0]) ?_⟩
      rw [tdiv_of_nonneg (by omega), tmod_of_nonneg (by omega), w64 (n := last / left) (by omega) (by omega), w64 (n := last / left * now) (by omega) (by omega), w64 (by omega) (by omega)]
      simpa [h0, hp] using ev

theorem implinv_loop (a m : Int) (hm : 2 ≤ m) (hM : m ≤ 1073741824) : ∀ (n : Nat) (last left before now : Int), left.toNat ≤ n → EuInv a m last left before now →
    -m ≤ before → before ≤ m → ∃ r b, InvIs a m r b ∧ Ev (fun k => impl_InvInt.l0 k m last left before now) (r,b) := by
  intro n
  induction n with
  | zero =>
    intro last left before now hn h hb hb'
    have := h.l0
    obtain rfl : left = 0 := by omega
    by_cases h1 : last = 1
    · refine ⟨before % m, true, h.one hm h1, Ev.step (fun k => by rw [impl_InvInt.l0]) ?_⟩
      subst h1
      simp [rest_eq (show 0 < m by omega) (show m ≤ 4611686018427387904 by omega)]
      exact Ev.now _
    · refine ⟨0, false, h.more h1, Ev.step (fun k => by rw [impl_InvInt.l0]) ?_⟩
      simp [h1]
      exact Ev.now _
  | succ n ih =>
    intro last left before now hn h hb hb'
    by_cases h0 : left = 0
    · exact ih last left before now (by omega) h hb hb'
    · have hp : 0 < left := by have := h.l0; omega
      have h' := h.step hp
      have b1 := h.now_le
      have b2 := h'.now_le
      have l1 := h.l1
      have hl := h.lm
      have q0 : 0 ≤ last / left := Int.ediv_nonneg (by omega) (by omega)
      have q1 : last / left ≤ last := Int.ediv_le_self _ (by omega)
      obtain ⟨r, b, hr, ev⟩ := ih left (last % left) now (before - last / left * now) (by have := h'.lt; have := h'.l0; omega) h' (by omega) (by omega)
      refine ⟨r, b, hr, Ev.step (fun k => by rw [impl_InvInt.l0]) ?_⟩
      rw [tdiv_of_nonneg (by omega), tmod_of_nonneg (by omega), w64 (n := last / left) (by omega) (by omega), w64 (n := last / left * now) (by omega) (by omega), w64 (by omega) (by omega)]
      simpa [h0, hp] using ev

theorem implInv_eq (a : Int) {m : Int} (h : 2 ≤ m) (h' : m ≤ 1073741824) : ∃ r b, InvIs a m r b ∧ Ev (fun k => impl_InvInt.f k a m) (r, b) := by
  obtain ⟨r, b, hr, e⟩ := implinv_loop a m h h' (a % m).toNat m (a % m) 0 1 (Nat.le_refl _) (EuInv.start h) (by omega) (by omega)
  refine ⟨r, b, hr, ?_⟩
  unfold impl_InvInt.f
  simp only [within_eq, h, h', and_self, decide_true, if_true, rest_eq (a := a) (m := m) (by omega) (by omega), Option.bind_some]
  exact e

theorem specInv_eq (a : Int) {m : Int} (h : 2 ≤ m) (h' : m ≤ 1073741824) : ∃ r b, InvIs a m r b ∧ Ev (fun k => spec_l2Inv.f k a m) r := by
  obtain ⟨r, b, hr, e⟩ := specinv_loop a m h h' (a % m).toNat m (a % m) 0 1 (Nat.le_refl _) (EuInv.start h) (by omega) (by omega)
  refine ⟨r, b, hr, ?_⟩
  unfold spec_l2Inv.f
  simp only [left_eq (a := a) (m := m) (by omega) (by omega), Option.bind_some]
  exact e

def tab8 : ByteArray := ⟨#[0, 1, 2, 2, 3, 3, 3, 3, 4, 4, 4, 4, 4, 4, 4, 4, 5, 5, 5, 5, 5, 5, 5, 5, 5, 5, 5, 5, 5, 5, 5, 5, 6, 6, 6, 6, 6, 6, 6, 6, 6, 6, 6, 6, 6, 6, 6, 6, 6, 6, 6, 6, 6, 6, 6, 6, 6, 6, 6, 6, 6, 6, 6, 6, 7, 7, 7, 7, 7, 7, 7, 7, 7, 7, 7, 7, 7, 7, 7, 7, 7, 7, 7, 7, 7, 7, 7, 7, 7, 7, 7, 7, 7, 7, 7, 7, 7, 7, 7, 7, 7, 7, 7, 7, 7, 7, 7, 7, 7, 7, 7, 7, 7, 7, 7, 7, 7, 7, 7, 7, 7, 7, 7, 7, 7, 7, 7, 7, 8, 8, 8, 8, 8, 8, 8, 8, 8, 8, 8, 8, 8, 8, 8, 8, 8, 8, 8, 8, 8, 8, 8, 8, 8, 8, 8, 8, 8, 8, 8, 8, 8, 8, 8, 8, 8, 8, 8, 8, 8, 8, 8, 8, 8, 8, 8, 8, 8, 8, 8, 8, 8, 8, 8, 8, 8, 8, 8, 8, 8, 8, 8, 8, 8, 8, 8, 8, 8, 8, 8, 8, 8, 8, 8, 8, 8, 8, 8, 8, 8, 8, 8, 8, 8, 8, 8, 8, 8, 8, 8, 8, 8, 8, 8, 8, 8, 8, 8, 8, 8, 8, 8, 8, 8, 8, 8, 8, 8, 8, 8, 8, 8, 8, 8, 8, 8, 8, 8, 8, 8, 8, 8, 8, 8, 8, 8, 8]⟩

theorem tab8_all : ∀ n : Fin 256, bt tab8 ((n.val : Nat) : Int) = ((bl n.val : Nat) : Int) := by decide +kernel

set_option maxRecDepth 100000 in
theorem tab8_eq {x : Int} (h0 : 0 ≤ x) (h1 : x < 256) : bt (⟨#[0, 1, 2, 2, 3, 3, 3, 3, 4, 4, 4, 4, 4, 4, 4, 4, 5, 5, 5, 5, 5, 5, 5, 5, 5, 5, 5, 5, 5, 5, 5, 5, 6, 6, 6, 6, 6, 6, 6, 6, 6, 6, 6, 6, 6, 6, 6, 6, 6, 6, 6, 6, 6, 6, 6, 6, 6, 6, 6, 6, 6, 6, 6, 6, 7, 7, 7, 7, 7, 7, 7, 7, 7, 7, 7, 7, 7, 7, 7, 7, 7, 7, 7, 7, 7, 7, 7, 7, 7, 7, 7, 7, 7, 7, 7, 7, 7, 7, 7, 7, 7, 7, 7, 7, 7, 7, 7, 7, 7, 7, 7, 7, 7, 7, 7, 7, 7, 7, 7, 7, 7, 7, 7, 7, 7, 7, 7, 7, 8, 8, 8, 8, 8, 8, 8, 8, 8, 8, 8, 8, 8, 8, 8, 8, 8, 8, 8, 8, 8, 8, 8, 8, 8, 8, 8, 8, 8, 8, 8, 8, 8, 8, 8, 8, 8, 8, 8, 8, 8, 8, 8, 8, 8, 8, 8, 8, 8, 8, 8, 8, 8, 8, 8, 8, 8, 8, 8, 8, 8, 8, 8, 8, 8, 8, 8, 8, 8, 8, 8, 8, 8, 8, 8, 8, 8, 8, 8, 8, 8, 8, 8, 8, 8, 8, 8, 8, 8, 8, 8, 8, 8, 8, 8, 8, 8, 8, 8, 8, 8, 8, 8, 8, 8, 8, 8, 8, 8, 8, 8, 8, 8, 8, 8, 8, 8, 8, 8, 8, 8, 8, 8, 8, 8, 8, 8, 8]⟩ : ByteArray) x = ((bl x.toNat : Nat) : Int) := by
  have := tab8_all ⟨x.toNat, by omega⟩
  unfold tab8 at this
  rw [show (((⟨x.toNat, by omega⟩ : Fin 256).val : Nat) : Int) = x from by simp; omega] at this
  exact this

theorem blI {x : Int} (k : Nat) (h : (2 : Int) ^ k ≤ x) : ((bl x.toNat : Nat) : Int) = ((bl (x / 2 ^ k).toNat : Nat) : Int) + k := by
  have h1 := bl_shift k x.toNat (by have := two_pow_int k; omega)
  have h2 : (x / 2 ^ k).toNat = x.toNat / 2 ^ k := by
    have h3 : 0 < (2 : Int) ^ k := Int.pow_pos (by omega)
    obtain ⟨n, rfl⟩ : ∃ n : Nat, x = n := ⟨x.toNat, by omega⟩
    rw [← two_pow_int, Int.toNat_natCast, ← Int.natCast_ediv, Int.toNat_natCast]
  rw [h2, h1]
  omega

set_option maxRecDepth 100000 in
theorem len64_j0 {x c : Int} (h0 : 0 ≤ x) (h1 : x < 4294967296) (c0 : 0 ≤ c) (c1 : c ≤ 1000) : Ev (fun k => bits_Len64.j0 k x c) (c + ((bl x.toNat : Nat) : Int)) := by
  refine Ev.step (fun k => by rw [bits_Len64.j0]) ?_
  have blb : ∀ y : Int, 0 ≤ y → y < 256 → ((bl y.toNat : Nat) : Int) ≤ 8 := by
    intro y y0 y1
    have := bl_le (n := y.toNat) (k := 8) (by omega)
    omega
  by_cases p1 : x ≥ 65536
  · simp only [if_pos p1]
    have e1 := blI (x := x) 16 (by omega)
    by_cases p2 : x / 65536 ≥ 256
    · have e2 := blI (x := x / 65536) 8 (by omega)
      have r0 : 0 ≤ x / 65536 / 256 := by omega
      have r1 : x / 65536 / 256 < 256 := by omega
      have r2 : x / 65536 / 256 % 256 = x / 65536 / 256 := by omega
      have b := blb (x / 65536 / 256) (by omega) (by omega)
      simp only [if_pos p2, r2, if_pos r0, if_pos r1, tab8_eq r0 r1]
      rw [w64 (n := ((bl (x / 65536 / 256).toNat : Nat) : Int)) (by omega) (by omega), w64 (n := c + 16) (by omega) (by omega), w64 (n := c + 16 + 8) (by omega) (by omega), w64 (by omega) (by omega),
        show c + 16 + 8 + ((bl (x / 65536 / 256).toNat : Nat) : Int) = c + ((bl x.toNat : Nat) : Int) by simp only [show ((2 : Int) ^ 16) = 65536 by decide, show ((2 : Int) ^ 8) = 256 by decide] at e1 e2; omega]
      exact Ev.now _
    · have r0 : 0 ≤ x / 65536 := by omega
      have r1 : x / 65536 < 256 := by omega
      have r2 : x / 65536 % 256 = x / 65536 := by omega
      have b := blb (x / 65536) (by omega) (by omega)
      simp only [if_neg p2, r2, if_pos r0, if_pos r1, tab8_eq r0 r1]
      rw [w64 (n := ((bl (x / 65536).toNat : Nat) : Int)) (by omega) (by omega), w64 (n := c + 16) (by omega) (by omega), w64 (by omega) (by omega),
        show c + 16 + ((bl (x / 65536).toNat : Nat) : Int) = c + ((bl x.toNat : Nat) : Int) by simp only [show ((2 : Int) ^ 16) = 65536 by decide] at e1; omega]
      exact Ev.now _
  · simp only [if_neg p1]
    by_cases p2 : x ≥ 256
    · have e2 := blI (x := x) 8 (by omega)
      have r0 : 0 ≤ x / 256 := by omega
      have r1 : x / 256 < 256 := by omega
      have r2 : x / 256 % 256 = x / 256 := by omega
      have b := blb (x / 256) (by omega) (by omega)
      simp only [if_pos p2, r2, if_pos r0, if_pos r1, tab8_eq r0 r1]
      rw [w64 (n := ((bl (x / 256).toNat : Nat) : Int)) (by omega) (by omega), w64 (n := c + 8) (by omega) (by omega), w64 (by omega) (by omega),
        show c + 8 + ((bl (x / 256).toNat : Nat) : Int) = c + ((bl x.toNat : Nat) : Int) by simp only [show ((2 : Int) ^ 8) = 256 by decide] at e2; omega]
      exact Ev.now _
    · have r0 : 0 ≤ x := by omega
      have r1 : x < 256 := by omega
      have r2 : x % 256 = x := by omega
      have b := blb x (by omega) (by omega)
      simp only [if_neg p2, r2, if_pos r0, if_pos r1, tab8_eq r0 r1]
      rw [w64 (n := ((bl x.toNat : Nat) : Int)) (by omega) (by omega), w64 (by omega) (by omega)]
      exact Ev.now _

theorem len_eq {x : Int} (h0 : 0 ≤ x) (h1 : x < 18446744073709551616) : Ev (fun k => bits_Len.f k x) ((bl x.toNat : Nat) : Int) := by
  unfold bits_Len.f bits_Len64.f
  by_cases p : x ≥ 4294967296
  · simp only [if_pos p]
    have e := blI (x := x) 32 (by omega)
    have := len64_j0 (x := x / 4294967296) (c := 32) (by omega) (by omega) (by omega) (by omega)
    rw [show 32 + ((bl (x / 4294967296).toNat : Nat) : Int) = ((bl x.toNat : Nat) : Int) by simp only [show ((2 : Int) ^ 32) = 4294967296 by decide] at e; omega] at this
    exact Ev.bind this (Ev.now _)
  · simp only [if_neg p]
    have := len64_j0 (x := x) (c := 0) (by omega) (by omega) (by omega) (by omega)
    rw [Int.zero_add] at this
    exact Ev.bind this (Ev.now _)

theorem u64w {x : Int} (h0 : 0 ≤ x) (h1 : x < 18446744073709551616) : IntKind.u64.wrap x = x := by
  rw [show IntKind.u64.wrap x = x % 18446744073709551616 from by simp [IntKind.wrap, IntKind.bits, IntKind.signed]]
  omega

theorem and1 {x : Int} (h0 : 0 ≤ x) (h1 : x < 9223372036854775808) : Go.bits .and .i64 x 1 = x % 2 := by
  have := bits_mask .i64 63 (by decide) (fun n a b => by rw [IntKind.wrap_i64]; omega) 1 (by decide) x h0 (by simpa using h1)
  simpa using this

theorem mulmod (x y m : Int) : x % m * (y % m) % m = x * y % m := (Int.mul_emod x y m).symm

theorem mod_bd (x : Int) {m : Int} (h : 1 ≤ m) (h' : m ≤ 1073741824) : 0 ≤ x % m ∧ x % m < m := ⟨Int.emod_nonneg _ (by omega), Int.emod_lt_of_pos _ (by omega)⟩

theorem mul_small {x y : Int} (hx : 0 ≤ x) (hx' : x < 1073741824) (hy : 0 ≤ y) (hy' : y < 1073741824) : 0 ≤ x * y ∧ wrap64 (x * y) = x * y := by
  have h1 : 0 ≤ x * y := Int.mul_nonneg hx hy
  have h2 : x * y ≤ 1073741823 * 1073741823 := Int.mul_le_mul (by omega) (by omega) hy (by omega)
  exact ⟨h1, w64 (by omega) (by omega)⟩

theorem one_mod' {m : Int} (h : 1 ≤ m) : (1 : Int) % m = 1 % m := rfl

theorem sprime_loop (n : Int) (hn : n ≤ 1099511627776) (h2 : 2 ≤ n) : ∀ (m : Nat) (d : Int), 2 ≤ d → (1048580 - d).toNat ≤ m → d ≤ 1048577 → (∀ c, 2 ≤ c → c < d → ¬ c ∣ n) →
    ∃ r, (r = true → Prm n) ∧ (r = false → ¬ Prm n) ∧ Ev (fun k => spec_PrimeInt.l0 k n d) r := by
  intro m
  induction m with
  | zero => intro d h h1 h2; omega
  | succ m ih =>
    intro d h h1 h3 hc
    have e0 : 0 ≤ d * d := Int.mul_nonneg (by omega) (by omega)
    have e1 : d * d ≤ 1048577 * 1048577 := Int.mul_le_mul h3 h3 (by omega) (by omega)
    have h5 : d * d ≤ n → d ≤ 1048576 := by
      intro k
      rcases Int.lt_or_le 1048576 d with h6 | h6
      · have : (1048577 : Int) * 1048577 ≤ d * d := Int.mul_le_mul h6 h6 (by omega) (by omega)
        omega
      · exact h6
    have ew : wrap64 (d * d) = d * d := w64 (by omega) (by omega)
    by_cases h6 : d * d ≤ n
    · have hd := h5 h6
      by_cases h4 : n % d = 0
      · refine ⟨false, fun k => (by cases k), fun _ k => k.2 d h h6 (Int.dvd_of_emod_eq_zero h4), Ev.step (fun k => by rw [spec_PrimeInt.l0]) ?_⟩
        simp only [ew, if_pos h6, if_neg (show ¬ d = 0 by clear ew; omega), Int.tmod_eq_emod_of_nonneg (show 0 ≤ n by clear ew; omega), if_pos h4]
        exact Ev.now _
      · obtain ⟨r, r1, r2, e⟩ := ih (d + 1) (by clear ew; omega) (by clear ew; omega) (by clear ew; omega) (fun c c0 c1 => by
          by_cases hcd : c = d
          · subst hcd; intro k; exact h4 (Int.emod_eq_zero_of_dvd k)
          · exact hc c c0 (by clear ew; omega))
        refine ⟨r, r1, r2, Ev.step (fun k => by rw [spec_PrimeInt.l0]) ?_⟩
        simp only [ew, if_pos h6, if_neg (show ¬ d = 0 by clear ew; omega), Int.tmod_eq_emod_of_nonneg (show 0 ≤ n by clear ew; omega), if_neg h4]
        clear ew
        rw [w64 (n := d + 1) (by omega) (by omega)]
        exact e
    · refine ⟨true, fun _ => ⟨h2, fun c c0 c1 c2 => ?_⟩, fun k => (by cases k), Ev.step (fun k => by rw [spec_PrimeInt.l0]) ?_⟩
      · refine hc c c0 ?_ c2
        rcases Int.lt_or_le c d with h7 | h7
        · exact h7
        · have : d * d ≤ c * c := Int.mul_le_mul h7 h7 (by clear ew; omega) (by clear ew; omega)
          clear ew; omega
      · simp only [ew, if_neg h6]
        exact Ev.now _

theorem sprime_eq (n : Int) : ∃ r, (r = true → Prm n ∧ n ≤ 1099511627776) ∧ (r = false → ¬ (Prm n ∧ n ≤ 1099511627776)) ∧ Ev (fun k => spec_PrimeInt.f k n) r := by
  unfold spec_PrimeInt.f
  simp only [in_eq, Option.bind_some]
  by_cases h : 2 ≤ n ∧ n ≤ 1099511627776
  · obtain ⟨r, r1, r2, e⟩ := sprime_loop n h.2 h.1 1048578 2 (by omega) (by omega) (by omega) (fun c c0 c1 => by omega)
    refine ⟨r, fun k => ⟨r1 k, h.2⟩, fun k q => r2 k q.1, ?_⟩
    simp only [h.1, h.2, and_self, decide_true, if_true]
    exact e
  · refine ⟨false, fun k => (by cases k), fun _ q => h ⟨q.1.1, q.2⟩, ?_⟩
    simp only [h, decide_false]
    simpa using Ev.now false

theorem iprime_loop (n : Int) (hn : n ≤ 1099511627776) (h2 : 2 ≤ n) : ∀ (m : Nat) (d : Int), 2 ≤ d → (1048580 - d).toNat ≤ m → d ≤ 1048577 → (∀ c, 2 ≤ c → c < d → ¬ c ∣ n) →
    ∃ r, (r = true → Prm n) ∧ (r = false → ¬ Prm n) ∧ Ev (fun k => impl_PrimeInt.l0 k n d) r := by
  intro m
  induction m with
  | zero => intro d h h1 h2; omega
  | succ m ih =>
    intro d h h1 h3 hc
    have e0 : 0 ≤ d * d := Int.mul_nonneg (by omega) (by omega)
    have e1 : d * d ≤ 1048577 * 1048577 := Int.mul_le_mul h3 h3 (by omega) (by omega)
    have h5 : d * d ≤ n → d ≤ 1048576 := by
      intro k
      rcases Int.lt_or_le 1048576 d with h6 | h6
      · have : (1048577 : Int) * 1048577 ≤ d * d := Int.mul_le_mul h6 h6 (by omega) (by omega)
        omega
      · exact h6
    have ew : wrap64 (d * d) = d * d := w64 (by omega) (by omega)
    by_cases h6 : d * d ≤ n
    · have hd := h5 h6
      by_cases h4 : n % d = 0
      · refine ⟨false, fun k => (by cases k), fun _ k => k.2 d h h6 (Int.dvd_of_emod_eq_zero h4), Ev.step (fun k => by rw [impl_PrimeInt.l0]) ?_⟩
        simp only [ew, if_pos h6, if_neg (show ¬ d = 0 by clear ew; omega), Int.tmod_eq_emod_of_nonneg (show 0 ≤ n by clear ew; omega), if_pos h4]
        exact Ev.now _
      · obtain ⟨r, r1, r2, e⟩ := ih (d + 1) (by clear ew; omega) (by clear ew; omega) (by clear ew; omega) (fun c c0 c1 => by
          by_cases hcd : c = d
          · subst hcd; intro k; exact h4 (Int.emod_eq_zero_of_dvd k)
          · exact hc c c0 (by clear ew; omega))
        refine ⟨r, r1, r2, Ev.step (fun k => by rw [impl_PrimeInt.l0]) ?_⟩
        simp only [ew, if_pos h6, if_neg (show ¬ d = 0 by clear ew; omega), Int.tmod_eq_emod_of_nonneg (show 0 ≤ n by clear ew; omega), if_neg h4]
        clear ew
        rw [w64 (n := d + 1) (by omega) (by omega)]
        exact e
    · refine ⟨true, fun _ => ⟨h2, fun c c0 c1 c2 => ?_⟩, fun k => (by cases k), Ev.step (fun k => by rw [impl_PrimeInt.l0]) ?_⟩
      · refine hc c c0 ?_ c2
        rcases Int.lt_or_le c d with h7 | h7
        · exact h7
        · have : d * d ≤ c * c := Int.mul_le_mul h7 h7 (by clear ew; omega) (by clear ew; omega)
          clear ew; omega
      · simp only [ew, if_neg h6]
        exact Ev.now _

theorem iprime_eq (n : Int) : ∃ r, (r = true → Prm n ∧ n ≤ 1099511627776) ∧ (r = false → ¬ (Prm n ∧ n ≤ 1099511627776)) ∧ Ev (fun k => impl_PrimeInt.f k n) r := by
  unfold impl_PrimeInt.f
  simp only [within_eq, Option.bind_some]
  by_cases h : 2 ≤ n ∧ n ≤ 1099511627776
  · obtain ⟨r, r1, r2, e⟩ := iprime_loop n h.2 h.1 1048578 2 (by omega) (by omega) (by omega) (fun c c0 c1 => by omega)
    refine ⟨r, fun k => ⟨r1 k, h.2⟩, fun k q => r2 k q.1, ?_⟩
    simp only [h.1, h.2, and_self, decide_true, if_true]
    exact e
  · refine ⟨false, fun k => (by cases k), fun _ q => h ⟨q.1.1, q.2⟩, ?_⟩
    simp only [h, decide_false]
    simpa using Ev.now false

theorem primes_eq (n : Int) : ∃ r, (r = true → Prm n) ∧ (r = false → n ≤ 1099511627776 → ¬ Prm n) ∧ Ev (fun k => spec_PrimeInt.f k n) r ∧ Ev (fun k => impl_PrimeInt.f k n) r := by
  obtain ⟨r, r1, r2, e⟩ := sprime_eq n
  obtain ⟨q, q1, q2, f⟩ := iprime_eq n
  obtain rfl : r = q := by
    cases r <;> cases q
    · rfl
    · exact absurd (q1 rfl) (r2 rfl)
    · exact absurd (r1 rfl) (q2 rfl)
    · rfl
  exact ⟨r, fun k => (r1 k).1, fun k h1 h2 => r2 k ⟨h2, h1⟩, e, f⟩

theorem mm {x y p : Int} (hp : 1 ≤ p) (hp' : p ≤ 1048576) (x0 : 0 ≤ x) (x1 : x < p) (y0 : 0 ≤ y) (y1 : y < p) : 0 ≤ x * y ∧ x * y ≤ 1099511627776 := by
  have h1 : 0 ≤ x * y := Int.mul_nonneg x0 y0
  have h2 : x * y ≤ 1048576 * 1048576 := Int.mul_le_mul (by omega) (by omega) y0 (by omega)
  omega

theorem md {x p : Int} (hp : 1 ≤ p) : 0 ≤ x % p ∧ x % p < p := ⟨Int.emod_nonneg _ (by omega), Int.emod_lt_of_pos _ (by omega)⟩

/-- A product's rest, as the code makes it. -/
theorem mulm {x y p : Int} (hp : 1 ≤ p) (hp' : p ≤ 1048576) (x0 : 0 ≤ x) (x1 : x < p) (y0 : 0 ≤ y) (y1 : y < p) : Int.tmod (wrap64 (x * y)) p = x * y % p := by
  obtain ⟨h1, h2⟩ := mm hp hp' x0 x1 y0 y1
  rw [w64 (by omega) (by omega), Int.tmod_eq_emod_of_nonneg h1]

theorem mms {x y z p : Int} (hp : 1 ≤ p) (hp' : p ≤ 1048576) (x0 : 0 ≤ x) (x1 : x < p) (y0 : 0 ≤ y) (y1 : y < p) (z0 : 0 ≤ z) (z1 : z < p) : -1099511627776 ≤ x * (y - z) ∧ x * (y - z) ≤ 1099511627776 := by
  obtain ⟨h1, h2⟩ := mm hp hp' x0 x1 y0 y1
  obtain ⟨h3, h4⟩ := mm hp hp' x0 x1 z0 z1
  rw [Int.mul_sub]
  omega

/-- What is reckoned behind the slope. -/
theorem third_arith {l x y u p : Int} (hp : 1 ≤ p) (hp' : p ≤ 1048576) (l0 : 0 ≤ l) (l1 : l < p) (x0 : 0 ≤ x) (x1 : x < p) (y0 : 0 ≤ y) (y1 : y < p) (u0 : 0 ≤ u) (u1 : u < p) :
    wrap64 (wrap64 (wrap64 (l * l) - x) - u) = l * l - x - u ∧ ∀ r, 0 ≤ r → r < p → wrap64 (wrap64 (l * wrap64 (x - r)) - y) = l * (x - r) - y := by
  obtain ⟨h1, h2⟩ := mm hp hp' l0 l1 l0 l1
  constructor
  · rw [w64 (n := l * l) (by omega) (by omega), w64 (n := l * l - x) (by omega) (by omega), w64 (by omega) (by omega)]
  · intro r r0 r1
    obtain ⟨h3, h4⟩ := mms hp hp' l0 l1 x0 x1 r0 r1
    rw [w64 (n := x - r) (by omega) (by omega), w64 (n := l * (x - r)) (by omega) (by omega), w64 (by omega) (by omega)]

theorem specSum_eq {p a b n gx gy x y u v : Int} {f g : Bool} (h : CNum p a b) (K : Fld p) (hp : CPt p a b K x y f) (hq : CPt p a b K u v g) :
    ∃ r s t, CPt p a b K r s t ∧ toPt K r s t = Pt.add (toF a) (toPt K x y f) (toPt K u v g) ∧ Ev (fun k => spec_l3Add.f k p a b n gx gy x y f u v g) (r, s, t) := by
  have hlo := h.lo
  have hhi := h.hi
  have p1 : 1 ≤ p := by omega
  cases f with
  | true =>
    refine ⟨u, v, g, hq, by simp only [toPt, if_true, Pt.far_add], ?_⟩
    unfold spec_l3Add.f
    simp only [if_true]
    exact Ev.now _
  | false =>
    cases g with
    | true =>
      refine ⟨x, y, false, hp, by simp only [toPt, if_true, Bool.false_eq_true, if_false, Pt.add_far], ?_⟩
      unfold spec_l3Add.f
      simp only [if_true, Bool.false_eq_true, if_false]
      exact Ev.now _
    | false =>
      have wy : Int.tmod (wrap64 (y + v)) p = (y + v) % p := by
        have := hp.y0; have := hp.y1; have := hq.y0; have := hq.y1
        rw [w64 (by omega) (by omega), Int.tmod_eq_emod_of_nonneg (by omega)]
      by_cases hn : x = u ∧ (y + v) % p = 0
      · refine ⟨0, 0, true, CPt.zero (by omega), cpt_opp hp hq hn, ?_⟩
        unfold spec_l3Add.f
        simp only [Bool.false_eq_true, if_false, if_pos hn.1, if_neg (show ¬ p = 0 by omega), wy, if_pos hn.2]
        exact Ev.now _
      · obtain ⟨r, s, t, h1, h2, h3⟩ : ∃ r s t, CPt p a b K r s t ∧ toPt K r s t = Pt.add (toF a) (toPt K x y false) (toPt K u v false) ∧ Ev (fun k => spec_l3Add.j0 k p a b n gx gy x y false u v false) (r, s, t) := by
          by_cases e : x = u
          · obtain ⟨ey, hne⟩ := dbl_ne hp hq hn e
            obtain ⟨i, bi, i1, e1⟩ := specInv_eq (2 * y) (m := p) (by omega) (by omega)
            obtain ⟨_, i0, i2, ti⟩ := inv_of K h.prm i1 hne
            have w3 : Int.tmod (wrap64 (3 * x)) p = 3 * x % p := by
              have := hp.x0; have := hp.x1
              rw [w64 (by omega) (by omega), Int.tmod_eq_emod_of_nonneg (by omega)]
            have m3 := md (x := 3 * x) p1
            obtain ⟨q1, q2⟩ := mm p1 hhi m3.1 m3.2 hp.x0 hp.x1
            have wn : Int.tmod (wrap64 (wrap64 (3 * x % p * x) + a)) p = (3 * x % p * x + a) % p := by
              have := h.a0; have := h.a1
              rw [w64 (n := 3 * x % p * x) (by clear w3; omega) (by clear w3; omega), w64 (by clear w3; omega) (by clear w3; omega), Int.tmod_eq_emod_of_nonneg (by clear w3; omega)]
            have mn := md (x := 3 * x % p * x + a) p1
            have wl := mulm p1 hhi mn.1 mn.2 (Int.le_of_lt i0) i2
            have ml := md (x := (3 * x % p * x + a) % p * i) p1
            have hl : (toF ((3 * x % p * x + a) % p * i % p) : K.F) = (3 * toF x * toF x + toF a) * toF i := by
              have e3 : (toF 3 : K.F) = 3 := toF_nat 3
              simp only [K.emod, toF_mul, toF_add, e3]
            have hs := slope_dbl (v := v) (a := a) e ti hl
            obtain ⟨c1, c2⟩ := cpt_third hp hq (by omega) hn hs
            have y0 := hp.y0
            have y1 := hp.y1
            have wi : wrap64 (2 * y) = 2 * y := w64 (by clear w3 wn wl wy; omega) (by clear w3 wn wl wy; omega)
            generalize hL : (3 * x % p * x + a) % p * i % p = L at *
            obtain ⟨t1, t2⟩ := third_arith p1 hhi ml.1 ml.2 hp.x0 hp.x1 hp.y0 hp.y1 hq.x0 hq.x1
            have mr := md (x := L * L - x - u) p1
            refine ⟨_, _, _, c1, c2, Ev.step (fun k => by rw [spec_l3Add.j0]) ?_⟩
            simp only [if_pos e, if_neg (show ¬ p = 0 by clear w3 wn wl wy; omega), w3, wn, wi]
            refine Ev.bind e1 ?_
            rw [wl, t1, left_eq (by clear w3 wn wl wy; omega) (by clear w3 wn wl wy; omega)]
            simp only [Option.bind_some]
            rw [t2 _ mr.1 mr.2, left_eq (by clear w3 wn wl wy; omega) (by clear w3 wn wl wy; omega)]
            exact Ev.now _
          · have hne := chord_ne hp hq e
            obtain ⟨i, bi, i1, e1⟩ := specInv_eq (u - x) (m := p) (by omega) (by omega)
            obtain ⟨_, i0, i2, ti⟩ := inv_of K h.prm i1 hne
            have mn := md (x := v - y) p1
            have wl := mulm p1 hhi mn.1 mn.2 (Int.le_of_lt i0) i2
            have ml := md (x := (v - y) % p * i) p1
            have hl : (toF ((v - y) % p * i % p) : K.F) = toF (v - y) * toF i := by simp only [K.emod, toF_mul]
            have hs := slope_chord (a := a) hp hq e ti hl
            obtain ⟨c1, c2⟩ := cpt_third hp hq (by omega) hn hs
            have y0 := hp.y0
            have y1 := hp.y1
            have x0 := hp.x0
            have x1 := hp.x1
            have v0 := hq.y0
            have v1 := hq.y1
            have u0 := hq.x0
            have u1 := hq.x1
            have wi : wrap64 (u - x) = u - x := w64 (by clear wl wy; omega) (by clear wl wy; omega)
            have wv : wrap64 (v - y) = v - y := w64 (by clear wi wl wy; omega) (by clear wi wl wy; omega)
            generalize hL : (v - y) % p * i % p = L at *
            obtain ⟨t1, t2⟩ := third_arith p1 hhi ml.1 ml.2 hp.x0 hp.x1 hp.y0 hp.y1 hq.x0 hq.x1
            have mr := md (x := L * L - x - u) p1
            refine ⟨_, _, _, c1, c2, Ev.step (fun k => by rw [spec_l3Add.j0]) ?_⟩
            simp only [if_neg e, wv, wi]
            rw [left_eq (by clear wi wv wl wy; omega) (by clear wi wv wl wy; omega)]
            simp only [Option.bind_some, if_neg (show ¬ p = 0 by clear wi wv wl wy; omega)]
            refine Ev.bind e1 ?_
            rw [wl, t1, left_eq (by clear wi wv wl wy; omega) (by clear wi wv wl wy; omega)]
            simp only [Option.bind_some]
            rw [t2 _ mr.1 mr.2, left_eq (by clear wi wv wl wy; omega) (by clear wi wv wl wy; omega)]
            exact Ev.now _
        refine ⟨r, s, t, h1, h2, ?_⟩
        unfold spec_l3Add.f
        by_cases e : x = u
        · simp only [Bool.false_eq_true, if_false, if_pos e, if_neg (show ¬ p = 0 by clear wy; omega), wy, if_neg (fun t => hn ⟨e, t⟩)]
          exact h3
        · simp only [Bool.false_eq_true, if_false, if_neg e]
          exact h3

theorem specTimes_loop {p a b n gx gy : Int} (h : CNum p a b) (K : Fld p) : ∀ (m E : Nat) (x y u v : Int) (f g : Bool), E ≤ m → E < 9223372036854775808 → CPt p a b K x y f → CPt p a b K u v g →
    ∃ r s t, CPt p a b K r s t ∧ toPt K r s t = (h.grp K).add (toPt K u v g) ((h.grp K).smul E (toPt K x y f)) ∧ Ev (fun k => spec_l3Mul.l0 k (E : Int) p a b n gx gy x y f u v g) (r, s, t) := by
  intro m
  induction m with
  | zero =>
    intro E x y u v f g hE hE' hp hq
    obtain rfl : E = 0 := by omega
    refine ⟨u, v, g, hq, ?_, Ev.step (fun k => by rw [spec_l3Mul.l0]) ?_⟩
    · exact ((h.grp K).add_zero (p := toPt K u v g) hq.pt).symm
    · simp only [if_neg (show ¬ ((0 : Nat) : Int) > 0 by omega)]
      exact Ev.now _
  | succ m ih =>
    intro E x y u v f g hE hE' hp hq
    by_cases h0 : E = 0
    · subst h0; exact ih 0 x y u v f g (by omega) (by omega) hp hq
    · have q0 : (E : Int) > 0 := by omega
      have q2 : wrap64 (Int.tdiv (E : Int) 2) = ((E / 2 : Nat) : Int) := by
        rw [Int.tdiv_eq_ediv_of_nonneg (by omega), w64 (by omega) (by omega)]
        omega
      have q3 : Int.tmod (E : Int) 2 = ((E % 2 : Nat) : Int) := by rw [Int.tmod_eq_emod_of_nonneg (by omega)]; clear q2; omega
      obtain ⟨x2, y2, g2, hp2, f2, e2⟩ := specSum_eq (n := n) (gx := gx) (gy := gy) h K hp hp
      rcases Nat.mod_two_eq_zero_or_one E with hb | hb
      · obtain ⟨r, s, t, hr, fr, er⟩ := ih (E / 2) x2 y2 u v g2 g (by clear q2 q3; omega) (by clear q2 q3; omega) hp2 hq
        refine ⟨r, s, t, hr, ?_, Ev.step (fun k => by rw [spec_l3Mul.l0]) ?_⟩
        · rw [fr, f2]
          have := (h.grp K).step_down (o := toPt K u v g) (p := toPt K x y f) hp.pt (E / 2)
          rw [show 2 * (E / 2) = E by clear q2 q3; omega] at this
          exact this
        · simp only [if_pos q0, q2, q3, hb, if_neg (show ¬ ((0 : Nat) : Int) = 1 by omega)]
          exact Ev.bind e2 er
      · obtain ⟨u2, v2, k2, hq2, c2, d2⟩ := specSum_eq (n := n) (gx := gx) (gy := gy) h K hq hp
        obtain ⟨r, s, t, hr, fr, er⟩ := ih (E / 2) x2 y2 u2 v2 g2 k2 (by clear q2 q3; omega) (by clear q2 q3; omega) hp2 hq2
        refine ⟨r, s, t, hr, ?_, Ev.step (fun k => by rw [spec_l3Mul.l0]) ?_⟩
        · rw [fr, f2, c2]
          have := (h.grp K).step_down1 (o := toPt K u v g) (p := toPt K x y f) hq.pt hp.pt (E / 2)
          rw [show 2 * (E / 2) + 1 = E by clear q2 q3; omega] at this
          exact this
        · simp only [if_pos q0, q2, q3, hb, if_pos (show ((1 : Nat) : Int) = 1 by omega)]
          exact Ev.bind d2 (Ev.bind e2 er)

theorem specTimes_eq {p a b o gx gy n x y : Int} {f : Bool} (h : CNum p a b) (K : Fld p) (hn : 0 ≤ n) (hn' : n ≤ 9223372036854775807) (hp : CPt p a b K x y f) :
    ∃ r s t, CPt p a b K r s t ∧ toPt K r s t = (h.grp K).smul n.toNat (toPt K x y f) ∧ Ev (fun k => spec_l3Mul.f k p a b o gx gy n x y f) (r, s, t) := by
  obtain ⟨E, rfl⟩ : ∃ E : Nat, n = E := ⟨n.toNat, by omega⟩
  obtain ⟨r, s, t, hr, fr, er⟩ := specTimes_loop (n := o) (gx := gx) (gy := gy) h K E E x y 0 0 f true (Nat.le_refl _) (by omega) hp (CPt.zero (by have := h.lo; omega))
  refine ⟨r, s, t, hr, ?_, er⟩
  rw [fr, Int.toNat_natCast]
  exact (h.grp K).zero_add ((h.grp K).on_smul (p := toPt K x y f) hp.pt E)

theorem implSum_eq {p a b n gx gy x y u v : Int} {f g : Bool} (h : CNum p a b) (K : Fld p) (hp : CPt p a b K x y f) (hq : CPt p a b K u v g) :
    ∃ r s t, CPt p a b K r s t ∧ toPt K r s t = Pt.add (toF a) (toPt K x y f) (toPt K u v g) ∧ Ev (fun k => impl_Curve_sum.f k p a b n gx gy x y f u v g) (r, s, t) := by
  have hlo := h.lo
  have hhi := h.hi
  have p1 : 1 ≤ p := by omega
  cases f with
  | true =>
    refine ⟨u, v, g, hq, by simp only [toPt, if_true, Pt.far_add], ?_⟩
    unfold impl_Curve_sum.f
    simp only [if_true]
    exact Ev.now _
  | false =>
    cases g with
    | true =>
      refine ⟨x, y, false, hp, by simp only [toPt, if_true, Bool.false_eq_true, if_false, Pt.add_far], ?_⟩
      unfold impl_Curve_sum.f
      simp only [if_true, Bool.false_eq_true, if_false]
      exact Ev.now _
    | false =>
      have wy : Int.tmod (wrap64 (y + v)) p = (y + v) % p := by
        have := hp.y0; have := hp.y1; have := hq.y0; have := hq.y1
        rw [w64 (by omega) (by omega), Int.tmod_eq_emod_of_nonneg (by omega)]
      by_cases hn : x = u ∧ (y + v) % p = 0
      · refine ⟨0, 0, true, CPt.zero (by omega), cpt_opp hp hq hn, ?_⟩
        unfold impl_Curve_sum.f
        simp only [Bool.false_eq_true, if_false, if_pos hn.1, if_neg (show ¬ p = 0 by omega), wy, if_pos hn.2]
        exact Ev.now _
      · -- the last step, at a slope's two parts
        have tail : ∀ nu de i bi : Int, True → (toF de : K.F) ≠ 0 → (∀ l : Int, ∀ i : Int, (toF i : K.F) = (toF de)⁻¹ → (toF l : K.F) = toF nu * toF i → (toF l : K.F) = slope (toF a) (toF x) (toF y) (toF u) (toF v)) →
            ∃ r s t, CPt p a b K r s t ∧ toPt K r s t = Pt.add (toF a) (toPt K x y false) (toPt K u v false) ∧ Ev (fun k => impl_Curve_sum.j1 k nu de p a b n gx gy x y false u v false) (r, s, t) := by
          intro nu de _ _ _ hne hsl
          obtain ⟨i, bi, i1, e1⟩ := implInv_eq de (m := p) (by omega) (by omega)
          obtain ⟨_, i0, i2, ti⟩ := inv_of K h.prm i1 hne
          have mn := md (x := nu) p1
          have wl := mulm p1 hhi mn.1 mn.2 (Int.le_of_lt i0) i2
          have ml := md (x := nu % p * i) p1
          have hl : (toF (nu % p * i % p) : K.F) = toF nu * toF i := by simp only [K.emod, toF_mul]
          have hs := hsl _ _ ti hl
          obtain ⟨c1, c2⟩ := cpt_third hp hq (by omega) hn hs
          generalize hL : nu % p * i % p = L at *
          obtain ⟨t1, t2⟩ := third_arith p1 hhi ml.1 ml.2 hp.x0 hp.x1 hp.y0 hp.y1 hq.x0 hq.x1
          have mr := md (x := L * L - x - u) p1
          refine ⟨_, _, _, c1, c2, Ev.step (fun k => by rw [impl_Curve_sum.j1]) ?_⟩
          refine Ev.bind e1 ?_
          simp only
          rw [rest_eq (by clear wl wy; omega) (by clear wl wy; omega)]
          simp only [Option.bind_some, if_neg (show ¬ p = 0 by clear wl wy; omega)]
          rw [wl, t1, rest_eq (by clear wl wy; omega) (by clear wl wy; omega)]
          simp only [Option.bind_some]
          rw [t2 _ mr.1 mr.2, rest_eq (by clear wl wy; omega) (by clear wl wy; omega)]
          exact Ev.now _
        obtain ⟨r, s, t, h1, h2, h3⟩ : ∃ r s t, CPt p a b K r s t ∧ toPt K r s t = Pt.add (toF a) (toPt K x y false) (toPt K u v false) ∧ Ev (fun k => impl_Curve_sum.j0 k p a b n gx gy x y false u v false) (r, s, t) := by
          by_cases e : x = u
          · obtain ⟨ey, hne⟩ := dbl_ne hp hq hn e
            obtain ⟨r, s, t, h1, h2, h3⟩ := tail (3 * x * x + a) (2 * y) 0 0 trivial hne (fun l i hi hl => slope_dbl (v := v) (a := a) e hi (by
              have e3 : (toF 3 : K.F) = 3 := toF_nat 3
              rw [hl]
              simp only [toF_mul, toF_add, e3]))
            refine ⟨r, s, t, h1, h2, Ev.step (fun k => by rw [impl_Curve_sum.j0]) ?_⟩
            have x0 := hp.x0
            have x1 := hp.x1
            have y0 := hp.y0
            have y1 := hp.y1
            have a0 := h.a0
            have a1 := h.a1
            obtain ⟨q1, q2⟩ := mm p1 hhi x0 x1 x0 x1
            have e4 : 3 * x * x = 3 * (x * x) := Int.mul_assoc ..
            have w3 : wrap64 (3 * x) = 3 * x := w64 (by clear wy; omega) (by clear wy; omega)
            have w4 : wrap64 (3 * x * x) = 3 * x * x := w64 (by clear wy w3; omega) (by clear wy w3; omega)
            have w5 : wrap64 (3 * x * x + a) = 3 * x * x + a := w64 (by clear wy w3 w4; omega) (by clear wy w3 w4; omega)
            have w6 : wrap64 (2 * y) = 2 * y := w64 (by clear wy w3 w4 w5; omega) (by clear wy w3 w4 w5; omega)
            have hb : (x == u && (y == v && (false == false))) = true := by simp [e, ey]
            simp only [hb, if_true, w3, w4, w5, w6]
            exact h3
          · have hne := chord_ne hp hq e
            obtain ⟨r, s, t, h1, h2, h3⟩ := tail (v - y) (u - x) 0 0 trivial hne (fun l i hi hl => slope_chord (a := a) hp hq e hi hl)
            refine ⟨r, s, t, h1, h2, Ev.step (fun k => by rw [impl_Curve_sum.j0]) ?_⟩
            have x0 := hp.x0
            have x1 := hp.x1
            have y0 := hp.y0
            have y1 := hp.y1
            have v0 := hq.y0
            have v1 := hq.y1
            have u0 := hq.x0
            have u1 := hq.x1
            have w1 : wrap64 (v - y) = v - y := w64 (by clear wy; omega) (by clear wy; omega)
            have w2 : wrap64 (u - x) = u - x := w64 (by clear wy w1; omega) (by clear wy w1; omega)
            have hb : (x == u && (y == v && (false == false))) = false := by simp [e]
            simp only [hb, Bool.false_eq_true, if_false, w1, w2]
            exact h3
        refine ⟨r, s, t, h1, h2, ?_⟩
        unfold impl_Curve_sum.f
        by_cases e : x = u
        · simp only [Bool.false_eq_true, if_false, if_pos e, if_neg (show ¬ p = 0 by clear wy; omega), wy, if_neg (fun t => hn ⟨e, t⟩)]
          exact h3
        · simp only [Bool.false_eq_true, if_false, if_neg e]
          exact h3

theorem implTimes_loop {p a b o gx gy x y : Int} {f : Bool} (h : CNum p a b) (K : Fld p) (hp : CPt p a b K x y f) (E : Nat) (hE : E < 9223372036854775808) : ∀ (n : Nat) (u v : Int) (g : Bool), n ≤ 64 → CPt p a b K u v g →
    toPt K u v g = (h.grp K).smul (E / 2 ^ n) (toPt K x y f) →
    ∃ r s t, CPt p a b K r s t ∧ toPt K r s t = (h.grp K).smul E (toPt K x y f) ∧ Ev (fun k => impl_Curve_times.l0 k (E : Int) ((n : Int) - 1) p a b o gx gy x y f u v g) (r, s, t) := by
  intro n
  induction n with
  | zero =>
    intro u v g _ hq e
    refine ⟨u, v, g, hq, by rw [e, Nat.pow_zero, Nat.div_one], Ev.step (fun k => by rw [impl_Curve_times.l0]) ?_⟩
    simp only [if_neg (show ¬ ((0 : Nat) : Int) - 1 ≥ 0 by omega)]
    exact Ev.now _
  | succ n ih =>
    intro u v g hn hq e
    have st := div_step E n
    obtain ⟨u2, v2, g2, hq2, f2, e2⟩ := implSum_eq (n := o) (gx := gx) (gy := gy) h K hq hq
    have sh : shr .i64 (E : Int) (n : Int) = ((E / 2 ^ n : Nat) : Int) := by
      unfold shr
      rw [Int.toNat_natCast, Nat.min_eq_left (by simp [IntKind.bits]; omega), ← two_pow_int]
      exact (Int.natCast_ediv _ _).symm
    have le : E / 2 ^ n ≤ E := Nat.div_le_self _ _
    have an := and1 (x := ((E / 2 ^ n : Nat) : Int)) (by omega) (by clear st; omega)
    have q0 : ((n + 1 : Nat) : Int) - 1 = (n : Int) := by clear sh an; omega
    have q1 : (n : Int) ≥ 0 := by clear sh an; omega
    have q3 : 0 ≤ (n : Int) := by clear sh an; omega
    have q4 : wrap64 ((n : Int) - 1) = (n : Int) - 1 := by clear sh an; exact w64 (by omega) (by omega)
    rcases Nat.mod_two_eq_zero_or_one (E / 2 ^ n) with hb | hb
    · obtain ⟨r, s, t, hr, fr, er⟩ := ih u2 v2 g2 (by clear sh an q4; omega) hq2 (by
        rw [f2, e, st, hb, Nat.add_zero]
        exact (h.grp K).step_up (p := toPt K x y f) hp.pt _)
      refine ⟨r, s, t, hr, fr, Ev.step (fun k => by rw [impl_Curve_times.l0]) ?_⟩
      simp only [q0, if_pos q1, if_pos q3, sh, an, q4, if_neg (show ¬ ((E / 2 ^ n : Nat) : Int) % 2 = 1 by clear sh an q4; omega)]
      exact Ev.bind e2 er
    · obtain ⟨u3, v3, g3, hq3, f3, e3⟩ := implSum_eq (n := o) (gx := gx) (gy := gy) h K hq2 hp
      obtain ⟨r, s, t, hr, fr, er⟩ := ih u3 v3 g3 (by clear sh an q4; omega) hq3 (by
        rw [f3, f2, e, st, hb]
        exact (h.grp K).step_up1 (p := toPt K x y f) hp.pt _)
      refine ⟨r, s, t, hr, fr, Ev.step (fun k => by rw [impl_Curve_times.l0]) ?_⟩
      simp only [q0, if_pos q1, if_pos q3, sh, an, q4, if_pos (show ((E / 2 ^ n : Nat) : Int) % 2 = 1 by clear sh an q4; omega)]
      exact Ev.bind e2 (Ev.bind e3 er)

theorem implTimes_eq {p a b o gx gy n x y : Int} {f : Bool} (h : CNum p a b) (K : Fld p) (hn : 0 ≤ n) (hn' : n ≤ 9223372036854775807) (hp : CPt p a b K x y f) :
    ∃ r s t, CPt p a b K r s t ∧ toPt K r s t = (h.grp K).smul n.toNat (toPt K x y f) ∧ Ev (fun k => impl_Curve_times.f k p a b o gx gy n x y f) (r, s, t) := by
  obtain ⟨E, rfl⟩ : ∃ E : Nat, n = E := ⟨n.toNat, by omega⟩
  have hl := bl_le (n := E) (k := 64) (by omega)
  obtain ⟨r, s, t, hr, fr, er⟩ := implTimes_loop (o := o) (gx := gx) (gy := gy) h K hp E (by omega) (bl E) 0 0 true hl (CPt.zero (by have := h.lo; omega)) (by
    rw [Nat.div_eq_of_lt (bl_lt E)]
    rfl)
  refine ⟨r, s, t, hr, by rw [fr, Int.toNat_natCast], ?_⟩
  unfold impl_Curve_times.f
  rw [u64w hn (by omega)]
  refine Ev.bind (len_eq hn (by omega)) ?_
  rw [Int.toNat_natCast, w64 (by omega) (by omega)]
  exact er

/-- The test on a point, with no field in sight. -/
def onCur (p a b x y : Int) (f : Bool) : Bool := if f = true then decide (x = 0 ∧ y = 0) else decide (0 ≤ x ∧ x ≤ p - 1) && decide (0 ≤ y ∧ y ≤ p - 1) && decide (y * y % p = ((x * x % p + a) * x + b) % p)

theorem onCur_iff {p a b x y : Int} {f : Bool} (hp : 0 < p) (K : Fld p) : onCur p a b x y f = true ↔ CPt p a b K x y f := by
  unfold onCur
  cases f with
  | true =>
    simp only [if_true, decide_eq_true_iff]
    constructor
    · rintro ⟨rfl, rfl⟩; exact CPt.zero hp
    · intro h; exact h.far rfl
  | false =>
    simp only [Bool.false_eq_true, if_false]
    rw [Bool.and_eq_true, Bool.and_eq_true, decide_eq_true_iff, decide_eq_true_iff, decide_eq_true_iff]
    have key : y * y % p = ((x * x % p + a) * x + b) % p ↔ On (toF a : K.F) (toF b) (toF x) (toF y) := by
      unfold On
      have e1 : (toF (y * y % p) : K.F) = toF y * toF y := by simp only [K.emod, toF_mul]
      have e2 : (toF (((x * x % p + a) * x + b) % p) : K.F) = toF x * toF x * toF x + toF a * toF x + toF b := by simp only [K.emod, toF_mul, toF_add]; grind
      rw [← e1, ← e2]
      constructor
      · intro k; rw [k]
      · intro k
        have b1 := md (x := y * y) (p := p) (by omega)
        have b2 := md (x := (x * x % p + a) * x + b) (p := p) (by omega)
        exact K.inj b1.1 b1.2 b2.1 b2.2 k
    rw [key]
    constructor
    · rintro ⟨⟨⟨a1, b1⟩, c1, e1⟩, f1⟩; exact ⟨fun k => (by cases k), a1, by omega, c1, by omega, fun _ => f1⟩
    · rintro ⟨_, a1, b1, c1, e1, f1⟩; exact ⟨⟨⟨a1, by omega⟩, c1, by omega⟩, f1 rfl⟩

theorem on_arith {p a b x y : Int} (K : Fld p) (hlo : 5 ≤ p) (hhi : p ≤ 1048576) (a0 : 0 ≤ a) (a1 : a < p) (b0 : 0 ≤ b) (b1 : b < p) (x0 : 0 ≤ x) (x1 : x ≤ p - 1) (y0 : 0 ≤ y) (y1 : y ≤ p - 1) :
    Int.tmod (wrap64 (y * y)) p = y * y % p ∧
    Int.tmod (wrap64 (wrap64 (wrap64 (Int.tmod (wrap64 (x * x)) p + a) * x) + b)) p = ((x * x % p + a) * x + b) % p ∧
    Int.tmod (wrap64 (wrap64 (Int.tmod (wrap64 (wrap64 (x * x) + a)) p * x) + b)) p = ((x * x % p + a) * x + b) % p := by
  have p1 : 1 ≤ p := by omega
  have m1 := md (x := x * x) p1
  have m2 := md (x := x * x + a) p1
  obtain ⟨h1, h2⟩ := mm p1 hhi x0 (by omega) x0 (by omega)
  obtain ⟨h3, h4⟩ := mm p1 hhi m1.1 m1.2 x0 (by omega)
  obtain ⟨h5, h6⟩ := mm p1 hhi a0 a1 x0 (by omega)
  obtain ⟨h7, h8⟩ := mm p1 hhi m2.1 m2.2 x0 (by omega)
  have e : (x * x % p + a) * x = x * x % p * x + a * x := Int.add_mul ..
  have same : ((x * x + a) % p * x + b) % p = ((x * x % p + a) * x + b) % p := by
    have k1 := md (x := (x * x + a) % p * x + b) p1
    have k2 := md (x := (x * x % p + a) * x + b) p1
    refine K.inj k1.1 k1.2 k2.1 k2.2 ?_
    simp only [K.emod, toF_mul, toF_add]
  refine ⟨mulm p1 hhi y0 (by omega) y0 (by omega), ?_, ?_⟩
  · rw [mulm p1 hhi x0 (by omega) x0 (by omega), w64 (n := x * x % p + a) (by omega) (by omega), w64 (n := (x * x % p + a) * x) (by omega) (by omega), w64 (by omega) (by omega), Int.tmod_eq_emod_of_nonneg (by omega)]
  · rw [w64 (n := x * x) (by omega) (by omega), w64 (n := x * x + a) (by omega) (by omega), Int.tmod_eq_emod_of_nonneg (a := x * x + a) (by omega), w64 (n := (x * x + a) % p * x) (by omega) (by omega), w64 (by omega) (by omega), Int.tmod_eq_emod_of_nonneg (by omega), same]

theorem specOn_eq {p a b n gx gy x y : Int} {f : Bool} (K : Fld p) (hlo : 5 ≤ p) (hhi : p ≤ 1048576) (a0 : 0 ≤ a) (a1 : a < p) (b0 : 0 ≤ b) (b1 : b < p) : spec_l3On.f p a b n gx gy x y f = some (onCur p a b x y f) := by
  unfold spec_l3On.f onCur
  cases f with
  | true =>
    simp only [if_true]
    by_cases hx : x = 0
    · by_cases hy : y = 0 <;> simp [hx, hy]
    · simp [hx]
  | false =>
    simp only [Bool.false_eq_true, if_false]
    rw [w64 (n := p - 1) (by omega) (by omega)]
    simp only [in_eq, Option.bind_some]
    by_cases hx : 0 ≤ x ∧ x ≤ p - 1
    · simp only [hx.1, hx.2, and_self, decide_true, if_true, Bool.true_and]
      by_cases hy : 0 ≤ y ∧ y ≤ p - 1
      · simp only [hy.1, hy.2, and_self, decide_true, if_true, Bool.true_and, if_neg (show ¬ p = 0 by omega)]
        obtain ⟨q1, q2, q3⟩ := on_arith K hlo hhi a0 a1 b0 b1 hx.1 hx.2 hy.1 hy.2
        rw [q1, q2]
        rfl
      · simp only [hy, decide_false, Bool.false_and]
        rfl
    · simp only [hx, decide_false, Bool.false_and]
      rfl

theorem implOn_eq {p a b n gx gy x y : Int} {f : Bool} (K : Fld p) (hlo : 5 ≤ p) (hhi : p ≤ 1048576) (a0 : 0 ≤ a) (a1 : a < p) (b0 : 0 ≤ b) (b1 : b < p) : impl_Curve_isPoint.f p a b n gx gy x y f = some (onCur p a b x y f) := by
  unfold impl_Curve_isPoint.f onCur
  cases f with
  | true =>
    simp only [if_true]
    by_cases hx : x = 0
    · by_cases hy : y = 0 <;> simp [hx, hy]
    · simp [hx]
  | false =>
    simp only [Bool.false_eq_true, if_false]
    rw [w64 (n := p - 1) (by omega) (by omega)]
    simp only [within_eq, Option.bind_some]
    by_cases hx : 0 ≤ x ∧ x ≤ p - 1
    · simp only [hx.1, hx.2, and_self, decide_true, if_true, Bool.true_and]
      by_cases hy : 0 ≤ y ∧ y ≤ p - 1
      · simp only [hy.1, hy.2, and_self, decide_true, if_true, Bool.true_and, if_neg (show ¬ p = 0 by omega)]
        obtain ⟨q1, q2, q3⟩ := on_arith K hlo hhi a0 a1 b0 b1 hx.1 hx.2 hy.1 hy.2
        rw [q1, q3]
        rfl
      · simp only [hy, decide_false, Bool.false_and]
        rfl
    · simp only [hx, decide_false, Bool.false_and]
      rfl

theorem disc_arith {p a b : Int} (K : Fld p) (hlo : 5 ≤ p) (hhi : p ≤ 1048576) (a0 : 0 ≤ a) (a1 : a < p) (b0 : 0 ≤ b) (b1 : b < p) :
    Int.tmod (wrap64 ((wrap64 ((wrap64 (4 * (Int.tmod (wrap64 (a * a)) p))) * a)) + (wrap64 (27 * (Int.tmod (wrap64 (b * b)) p))))) p = (4 * (a * a % p) * a + 27 * (b * b % p)) % p ∧
    Int.tmod (wrap64 ((wrap64 ((Int.tmod (wrap64 ((wrap64 (4 * a)) * a)) p) * a)) + (wrap64 ((wrap64 (27 * b)) * b)))) p = (4 * (a * a % p) * a + 27 * (b * b % p)) % p := by
  have p1 : 1 ≤ p := by omega
  have m1 := md (x := a * a) p1
  have m2 := md (x := b * b) p1
  have m3 := md (x := 4 * a * a) p1
  obtain ⟨h1, h2⟩ := mm p1 hhi a0 a1 a0 a1
  obtain ⟨h3, h4⟩ := mm p1 hhi b0 b1 b0 b1
  obtain ⟨h5, h6⟩ := mm p1 hhi m1.1 m1.2 a0 a1
  obtain ⟨h7, h8⟩ := mm p1 hhi m3.1 m3.2 a0 a1
  have e1 : 4 * (a * a % p) * a = 4 * (a * a % p * a) := Int.mul_assoc ..
  have e2 : 4 * a * a = 4 * (a * a) := Int.mul_assoc ..
  have e3 : 27 * b * b = 27 * (b * b) := Int.mul_assoc ..
  have same : (4 * a * a % p * a + 27 * b * b) % p = (4 * (a * a % p) * a + 27 * (b * b % p)) % p := by
    have k1 := md (x := 4 * a * a % p * a + 27 * b * b) p1
    have k2 := md (x := 4 * (a * a % p) * a + 27 * (b * b % p)) p1
    refine K.inj k1.1 k1.2 k2.1 k2.2 ?_
    simp only [K.emod, toF_mul, toF_add]
    grind
  constructor
  · rw [mulm p1 hhi a0 a1 a0 a1, mulm p1 hhi b0 b1 b0 b1, w64 (n := 4 * (a * a % p)) (by omega) (by omega), w64 (n := 4 * (a * a % p) * a) (by omega) (by omega), w64 (n := 27 * (b * b % p)) (by omega) (by omega), w64 (by omega) (by omega), Int.tmod_eq_emod_of_nonneg (by omega)]
  · rw [w64 (n := 4 * a) (by omega) (by omega), w64 (n := 4 * a * a) (by omega) (by omega), Int.tmod_eq_emod_of_nonneg (a := 4 * a * a) (by omega), w64 (n := 4 * a * a % p * a) (by omega) (by omega), w64 (n := 27 * b) (by omega) (by omega), w64 (n := 27 * b * b) (by omega) (by omega), w64 (by omega) (by omega), Int.tmod_eq_emod_of_nonneg (by omega), same]

/-- A right curve: what is asked ahead of the multiple. -/
structure CurPre (p a b n : Int) : Prop where
  num : CNum p a b
  n0 : 5 ≤ n
  n1 : n ≤ 2097152
  four : p % 4 = 3

theorem both_cur (p a b n gx gy : Int) (hn : -9223372036854775808 ≤ n ∧ n ≤ 9223372036854775807) : ∃ r, Ev (fun k => spec_CurveOk.f k p a b n gx gy) r ∧ Ev (fun k => impl_CurveOk.f k p a b n gx gy) r ∧
    (r = true → CurPre p a b n ∧ ∀ K : Fld p, CPt p a b K gx gy false) := by
  have sj : Ev (fun k => spec_CurveOk.j0 k true p a b n gx gy) false := Ev.step (fun k => by rw [spec_CurveOk.j0]) (by simp only [if_true]; exact Ev.now _)
  have ij : Ev (fun k => impl_CurveOk.j0 k true p a b n gx gy) false := Ev.step (fun k => by rw [impl_CurveOk.j0]) (by simp only [if_true]; exact Ev.now _)
  have ij1 : Ev (fun k => impl_CurveOk.j1 k true p a b n gx gy) false := Ev.step (fun k => by rw [impl_CurveOk.j1]) (by simp only [if_true]; exact Ev.now _)
  unfold spec_CurveOk.f impl_CurveOk.f
  simp only [in_eq, within_eq, Option.bind_some]
  by_cases hp : 5 ≤ p ∧ p ≤ 1048576
  · have hlo := hp.1
    have hhi := hp.2
    have w1 : wrap64 (p - 1) = p - 1 := w64 (by omega) (by omega)
    have t4 : Int.tmod p 4 = p % 4 := Int.tmod_eq_emod_of_nonneg (by clear w1; omega)
    simp only [hp.1, hp.2, and_self, decide_true, if_true, w1, t4]
    clear t4
    by_cases h4 : p % 4 = 3
    · simp only [if_pos h4]
      obtain ⟨bp, bp1, bp2, sp, ip⟩ := primes_eq p
      obtain ⟨bq, bq1, bq2, sq, iq⟩ := primes_eq n
      by_cases ha : 0 ≤ a ∧ a ≤ p - 1
      · by_cases hb : 0 ≤ b ∧ b ≤ p - 1
        · by_cases hl : 5 ≤ n ∧ n ≤ 2097152
          · simp only [ha.1, ha.2, hb.1, hb.2, hl.1, hl.2, and_self, decide_true, if_true]
            cases bp with
            | false =>
              refine ⟨false, Ev.bind sp ?_, Ev.bind ip ?_, fun k => by cases k⟩
              · simpa using sj
              · simpa using ij
            | true =>
              cases bq with
              | false =>
                refine ⟨false, Ev.bind sp ?_, Ev.bind ip ?_, fun k => by cases k⟩
                · simp only [if_true]
                  exact Ev.bind sq (by simpa using sj)
                · simp only [if_true]
                  exact Ev.bind iq (by simpa using ij)
              | true =>
                have hP := bp1 rfl
                obtain ⟨K⟩ := fldOf_exists hP
                have a1 : a < p := by clear w1; omega
                have b1 : b < p := by clear w1; omega
                obtain ⟨d1, d2⟩ := disc_arith K hlo hhi ha.1 a1 hb.1 b1
                have so := specOn_eq (n := n) (gx := gx) (gy := gy) (x := gx) (y := gy) (f := false) K hlo hhi ha.1 a1 hb.1 b1
                have io := implOn_eq (n := n) (gx := gx) (gy := gy) (x := gx) (y := gy) (f := false) K hlo hhi ha.1 a1 hb.1 b1
                have pn : ¬ p = 0 := by clear w1 d1 d2; omega
                obtain ⟨r, e1, e2, hr⟩ : ∃ r, Ev (fun k => spec_CurveOk.j0 k false p a b n gx gy) r ∧ Ev (fun k => impl_CurveOk.j0 k false p a b n gx gy) r ∧ (r = true → CNum p a b ∧ onCur p a b gx gy false = true) := by
                  by_cases hd : (4 * (a * a % p) * a + 27 * (b * b % p)) % p = 0
                  · refine ⟨false, Ev.step (fun k => by rw [spec_CurveOk.j0]) ?_, Ev.step (fun k => by rw [impl_CurveOk.j0]) ?_, fun k => by cases k⟩
                    · simp only [Bool.false_eq_true, if_false, if_neg pn, d1, hd, if_true]
                      exact Ev.now _
                    · simp only [Bool.false_eq_true, if_false, if_neg pn, d2, hd, if_true]
                      exact ij1
                  · have hN : CNum p a b := ⟨hP, hlo, hhi, ha.1, a1, hb.1, b1, hd⟩
                    cases ho : onCur p a b gx gy false with
                    | false =>
                      refine ⟨false, Ev.step (fun k => by rw [spec_CurveOk.j0]) ?_, Ev.step (fun k => by rw [impl_CurveOk.j0]) ?_, fun k => by cases k⟩
                      · simp only [Bool.false_eq_true, if_false, if_neg pn, d1, if_neg hd, so, ho, Option.bind_some]
                        exact Ev.now _
                      · simp only [Bool.false_eq_true, if_false, if_neg pn, d2, if_neg hd, impl_Curve_base.f, io, ho, Option.bind_some]
                        exact ij1
                    | true =>
                      have hb' := (onCur_iff (by clear w1 d1 d2; omega) K).1 ho
                      obtain ⟨r, s, t, hr, fr, er⟩ := specTimes_eq (o := n) (gx := gx) (gy := gy) (n := n) hN K (by clear w1 d1 d2; omega) hn.2 hb'
                      obtain ⟨r', s', t', hr', fr', er'⟩ := implTimes_eq (o := n) (gx := gx) (gy := gy) (n := n) hN K (by clear w1 d1 d2; omega) hn.2 hb'
                      obtain ⟨rfl, rfl, rfl⟩ := hr.same hr' (by rw [fr, fr'])
                      refine ⟨t, Ev.step (fun k => by rw [spec_CurveOk.j0]) ?_, Ev.step (fun k => by rw [impl_CurveOk.j0]) ?_, fun _ => ⟨hN, rfl⟩⟩
                      · simp only [Bool.false_eq_true, if_false, if_neg pn, d1, if_neg hd, so, ho, Option.bind_some, if_true]
                        exact Ev.bind er (Ev.now _)
                      · simp only [Bool.false_eq_true, if_false, if_neg pn, d2, if_neg hd, impl_Curve_base.f, io, ho, Option.bind_some, Bool.not_true]
                        refine Ev.step (fun k => by rw [impl_CurveOk.j1]) ?_
                        simp only [Bool.false_eq_true, if_false, impl_Curve_base.f, Option.bind_some]
                        exact Ev.bind er' (Ev.now _)
                refine ⟨r, Ev.bind sp ?_, Ev.bind ip ?_, fun k => ⟨⟨(hr k).1, hl.1, hl.2, h4⟩, fun K' => (onCur_iff (by clear w1 d1 d2; omega) K').1 (hr k).2⟩⟩
                · simp only [if_true]
                  exact Ev.bind sq (by simpa using e1)
                · simp only [if_true]
                  exact Ev.bind iq (by simpa using e2)
          · refine ⟨false, Ev.bind sp ?_, ?_, fun k => by cases k⟩
            · cases bp with
              | false => simpa using sj
              | true => simp only [if_true, ha.1, ha.2, hb.1, hb.2, and_self, decide_true, hl, decide_false]; simpa using sj
            · simp only [ha.1, ha.2, hb.1, hb.2, and_self, decide_true, if_true, hl, decide_false]
              simpa using ij
        · refine ⟨false, Ev.bind sp ?_, ?_, fun k => by cases k⟩
          · cases bp with
            | false => simpa using sj
            | true => simp only [if_true, ha.1, ha.2, and_self, decide_true, hb, decide_false]; simpa using sj
          · simp only [ha.1, ha.2, and_self, decide_true, if_true, hb, decide_false]
            simpa using ij
      · refine ⟨false, Ev.bind sp ?_, ?_, fun k => by cases k⟩
        · cases bp with
          | false => simpa using sj
          | true => simp only [if_true, ha, decide_false]; simpa using sj
        · simp only [ha, decide_false]
          simpa using ij
    · simp only [if_neg h4]
      exact ⟨false, sj, ij, fun k => by cases k⟩
  · simp only [hp, decide_false]
    exact ⟨false, by simpa using sj, by simpa using ij, fun k => by cases k⟩

theorem both_pt (p a b n gx gy x y : Int) (f : Bool) (hn : -9223372036854775808 ≤ n ∧ n ≤ 9223372036854775807) : ∃ r, Ev (fun k => spec_PointOk.f k p a b n gx gy x y f) r ∧ Ev (fun k => impl_PointOk.f k p a b n gx gy x y f) r ∧
    (r = true → CurPre p a b n ∧ ∀ K : Fld p, CPt p a b K gx gy false ∧ CPt p a b K x y f) := by
  obtain ⟨r, e1, e2, h⟩ := both_cur p a b n gx gy hn
  unfold spec_PointOk.f impl_PointOk.f
  cases r with
  | false =>
    refine ⟨false, Ev.bind e1 ?_, Ev.bind e2 ?_, fun k => by cases k⟩
    · simpa using Ev.now false
    · simpa using Ev.now false
  | true =>
    obtain ⟨hp, hg⟩ := h rfl
    obtain ⟨K⟩ := fldOf_exists hp.num.prm
    have so := specOn_eq (n := n) (gx := gx) (gy := gy) (x := x) (y := y) (f := f) K hp.num.lo hp.num.hi hp.num.a0 hp.num.a1 hp.num.b0 hp.num.b1
    have io := implOn_eq (n := n) (gx := gx) (gy := gy) (x := x) (y := y) (f := f) K hp.num.lo hp.num.hi hp.num.a0 hp.num.a1 hp.num.b0 hp.num.b1
    refine ⟨onCur p a b x y f, Ev.bind e1 ?_, Ev.bind e2 ?_, fun k => ⟨hp, fun K' => ⟨hg K', (onCur_iff (by have := hp.num.lo; omega) K').1 k⟩⟩⟩
    · simp only [if_true, so, Option.bind_some]
      exact Ev.now _
    · simp only [if_true, io, Option.bind_some]
      exact Ev.now _

theorem eqByteS_loop (l : List Int) (hl : l.length ≤ 1099511627776) : ∀ (d : Nat) (i : Int), 0 ≤ i → (l.length : Int) - i = d → Ev (fun k => laws_eqByteS.l0 k l l i) true := by
  intro d
  induction d with
  | zero =>
    intro i h0 hd
    refine Ev.step (fun k => by rw [laws_eqByteS.l0]) ?_
    simp only [if_neg (show ¬ i < (l.length : Int) by omega)]
    exact Ev.now _
  | succ d ih =>
    intro i h0 hd
    refine Ev.step (fun k => by rw [laws_eqByteS.l0]) ?_
    simp only [if_pos (show i < (l.length : Int) by omega), if_pos h0, if_true]
    rw [w64 (n := i + 1) (by omega) (by omega)]
    exact ih (i + 1) (by omega) (by omega)

theorem eqByteS_eq (l : List Int) (hl : l.length ≤ 1099511627776) : Ev (fun k => laws_eqByteS.f k l l) true := by
  unfold laws_eqByteS.f
  simp only [if_true]
  exact eqByteS_loop l hl l.length 0 (by omega) (by omega)

theorem markByteS_loop (n : Nat) (m0 : Int) (hm : 1 ≤ m0) (hm' : m0 ≤ 1099511627776) (hl : n ≤ 1099511627776) : ∀ (d : Nat) (x : List Int) (i : Int), 0 ≤ i → (n : Int) - i = d → x.length = n →
    (∀ j : Nat, (j : Int) < i → x.getD j 0 = (m0 + j) % 256) → Ev (fun k => laws_markByteS.l0 k x (m0 + i) i) (m0 + n, (List.range n).map (fun j => (m0 + ((j : Nat) : Int)) % 256)) := by
  intro d
  induction d with
  | zero =>
    intro x i h0 hd hx he
    refine Ev.step (fun k => by rw [laws_markByteS.l0]) ?_
    simp only [hx, if_neg (show ¬ i < (n : Int) by omega)]
    have : x = (List.range n).map (fun j => (m0 + ((j : Nat) : Int)) % 256) := by
      apply List.ext_getElem (by simpa using hx)
      intro j h1 h2
      have := he j (by omega)
      rw [List.getD_eq_getElem?_getD, List.getElem?_eq_getElem h1] at this
      simpa using this
    rw [this, show m0 + i = m0 + (n : Int) by omega]
    exact Ev.now _
  | succ d ih =>
    intro x i h0 hd hx he
    refine Ev.step (fun k => by rw [laws_markByteS.l0]) ?_
    simp only [hx, if_pos (show i < (n : Int) by omega), if_pos h0]
    rw [w64 (n := i + 1) (by omega) (by omega), w64 (n := m0 + i + 1) (by omega) (by omega), show m0 + i + 1 = m0 + (i + 1) by omega]
    refine ih _ (i + 1) (by omega) (by omega) (by simpa using hx) (fun j hj => ?_)
    rw [List.getD_eq_getElem?_getD, List.getElem?_set]
    by_cases hji : i.toNat = j
    · subst hji
      rw [if_pos rfl, if_pos (by omega)]
      simp only [Option.getD_some]
      omega
    · rw [if_neg hji, ← List.getD_eq_getElem?_getD]
      exact he j (by omega)

def markedB (n : Nat) (m0 : Int) : List Int := (List.range n).map (fun j => (m0 + ((j : Nat) : Int)) % 256)

theorem markByteS_eq (l : List Int) {m0 : Int} (hm : 1 ≤ m0) (hm' : m0 ≤ 1099511627776) (hl : l.length ≤ 1099511627776) : Ev (fun k => laws_markByteS.f k l m0) (m0 + l.length, markedB l.length m0) := by
  unfold laws_markByteS.f
  have := markByteS_loop l.length m0 hm hm' hl l.length l 0 (by omega) (by omega) rfl (fun j hj => by omega)
  rwa [Int.add_zero] at this


theorem heldByteS_loop (n : Nat) (m0 : Int) (hm : 1 ≤ m0) (hm' : m0 ≤ 1099511627776) (hl : n ≤ 1099511627776) : ∀ (d : Nat) (i : Int), 0 ≤ i → (n : Int) - i = d →
    Ev (fun k => laws_heldByteS.l0 k (markedB n m0) (m0 + i) i) (m0 + n) := by
  have hlen : (markedB n m0).length = n := by simp [markedB]
  intro d
  induction d with
  | zero =>
    intro i h0 hd
    refine Ev.step (fun k => by rw [laws_heldByteS.l0]) ?_
    simp only [hlen, if_neg (show ¬ i < (n : Int) by omega)]
    rw [show m0 + i = m0 + (n : Int) by omega]
    exact Ev.now _
  | succ d ih =>
    intro i h0 hd
    refine Ev.step (fun k => by rw [laws_heldByteS.l0]) ?_
    have hr : rd (markedB n m0) i = (m0 + i) % 256 := by
      unfold rd markedB
      rw [List.getD_eq_getElem?_getD, List.getElem?_map, List.getElem?_range (by omega)]
      simp only [Option.map_some, Option.getD_some]
      omega
    simp only [hlen, if_pos (show i < (n : Int) by omega), if_pos h0, hr, if_true]
    rw [w64 (n := i + 1) (by omega) (by omega), w64 (n := m0 + i + 1) (by omega) (by omega), show m0 + i + 1 = m0 + (i + 1) by omega]
    exact ih (i + 1) (by omega) (by omega)

theorem heldByteS_eq (n : Nat) {m0 : Int} (hm : 1 ≤ m0) (hm' : m0 ≤ 1099511627776) (hl : n ≤ 1099511627776) : Ev (fun k => laws_heldByteS.f k (markedB n m0) m0) (m0 + n) := by
  unfold laws_heldByteS.f
  have := heldByteS_loop n m0 hm hm' hl n 0 (by omega) (by omega)
  rwa [Int.add_zero] at this

theorem both_bytes (p a b n gx gy x y : Int) (f c : Bool) (hn : -9223372036854775808 ≤ n ∧ n ≤ 9223372036854775807) : ∃ r t, r.length ≤ 7 ∧ Ev (fun k => spec_PointBytes.f k p a b n gx gy x y f c) (r, t) ∧ Ev (fun k => impl_PointBytes.f k p a b n gx gy x y f c) (r, t) := by
  obtain ⟨t, e1, e2, ht⟩ := both_pt p a b n gx gy x y f hn
  unfold spec_PointBytes.f impl_PointBytes.f
  cases t with
  | false =>
    refine ⟨[], false, by simp, Ev.bind e1 ?_, Ev.bind e2 ?_⟩
    · simpa using Ev.now (([] : List Int), false)
    · simpa using Ev.now (([] : List Int), false)
  | true =>
    cases f with
    | true =>
      refine ⟨[0], true, by simp, Ev.bind e1 ?_, Ev.bind e2 ?_⟩
      · simpa using Ev.now (([0] : List Int), true)
      · simpa [impl_pointBytes.f] using Ev.now (([0] : List Int), true)
    | false =>
      cases c with
      | true =>
        refine ⟨[(wrap64 (2 + (Int.tmod y 2))) % 256, (x / 65536) % 256, (x / 256) % 256, x % 256], true, by simp, Ev.bind e1 ?_, Ev.bind e2 ?_⟩
        · simpa [spec_l3Three.f] using Ev.now ([(wrap64 (2 + (Int.tmod y 2))) % 256, (x / 65536) % 256, (x / 256) % 256, x % 256], true)
        · simpa [impl_pointBytes.f, impl_three.f] using Ev.now ([(wrap64 (2 + (Int.tmod y 2))) % 256, (x / 65536) % 256, (x / 256) % 256, x % 256], true)
      | false =>
        refine ⟨[4, (x / 65536) % 256, (x / 256) % 256, x % 256, (y / 65536) % 256, (y / 256) % 256, y % 256], true, by simp, Ev.bind e1 ?_, Ev.bind e2 ?_⟩
        · simpa [spec_l3Three.f] using Ev.now ([4, (x / 65536) % 256, (x / 256) % 256, x % 256, (y / 65536) % 256, (y / 256) % 256, y % 256], true)
        · simpa [impl_pointBytes.f, impl_three.f] using Ev.now ([4, (x / 65536) % 256, (x / 256) % 256, x % 256, (y / 65536) % 256, (y / 256) % 256, y % 256], true)

theorem FnExactPointBytes : laws_FnExactPointBytes.Pure := by
  intro p a b n gx gy x y f c _ _ _ hn _ _ _ _
  refine Ev.rounds (r := true) ?_
  obtain ⟨r, t, hr, e1, e2⟩ := both_bytes p a b n gx gy x y f c (wf64 hn)
  have er := eqByteS_eq r (by omega)
  have mr := markByteS_eq r (m0 := 1) (by omega) (by omega) (by omega)
  have hh := heldByteS_eq r.length (m0 := 1) (by omega) (by omega) (by omega)
  have f2 : ¬ (1 : Int) + r.length < 0 := by omega
  unfold laws_FnExactPointBytes.f laws_toCurve.f laws_toPoint.f
  simp only [Option.bind_some]
  refine Ev.bind e1 (Ev.bind e2 (Ev.bind er ?_))
  simp only [if_true, bne_self_eq_false]
  refine Ev.step (fun k => by rw [laws_FnExactPointBytes.j0]) ?_
  simp only [Bool.false_eq_true, if_false]
  refine Ev.bind mr (Ev.bind hh ?_)
  simp only [if_neg f2, if_true, laws_toCurve.f, laws_toPoint.f, Option.bind_some]
  refine Ev.bind e2 (Ev.bind er ?_)
  simp only [if_true, bne_self_eq_false]
  refine Ev.step (fun k => by rw [laws_FnExactPointBytes.j1]) ?_
  simp only [Bool.false_eq_true, if_false]
  refine Ev.bind hh ?_
  simp only [if_neg f2, if_true]
  exact Ev.now _

end Go.Proofs.Ytadmkolopcdffaa.Pure
