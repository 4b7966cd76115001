/- The law FnExactNatRead answers true at all bytes: both put the same pairs of bytes together, and the answer is the call's own. -/
import Derived.Test.YtohplbcbkggjaaaPFnExactNatReadx3
import Derived.Test.YtohplbcbkggjaaaMDig
namespace Go.Proofs.Ytohplbcbkggjaaa.Pure
open Go.RowKit Go.Proofs.Ytohplbcbkggjaaa.PFnExactNatRead Go.Proofs.YtohplbcbkggjaaaW.PrintWords Go.Proofs.YtohplbcbkggjaaaW.PrintLast Go.Proofs.Ytohplbcbkggjaaa.Plain

set_option linter.unusedVariables false
set_option linter.unusedSimpArgs false

theorem w64 {n : Int} (h : -9223372036854775808 ≤ n) (h' : n ≤ 9223372036854775807) : wrap64 n = n := by
  unfold wrap64
  omega

theorem wf64 {n : Int} (h : (Lit.int .i64 n).wf = true) : -9223372036854775808 ≤ n ∧ n ≤ 9223372036854775807 := by
  simpa [Lit.wf, IntKind.min, IntKind.max, IntKind.signed, IntKind.bits] using h

theorem wsucc {i : Nat} (h : i ≤ 1099511627776) : wrap64 ((i : Int) + 1) = ((i + 1 : Nat) : Int) := by
  rw [w64 (by omega) (by omega)]
  omega

theorem wpred {i : Nat} (h : i ≤ 1099511627776) : wrap64 (((i + 1 : Nat) : Int) - 1) = (i : Int) := by
  rw [w64 (by omega) (by omega)]
  omega

theorem toByteS_loop (l : List Int) (hl : l.length ≤ 1099511627776) : ∀ (d : Nat) (x : List Int) (i : Int), 0 ≤ i → (l.length : Int) - i = d → x.length = l.length → (∀ j : Nat, (j : Int) < i → x.getD j 0 = l.getD j 0) →
    Ev (fun k => laws_toByteS.l0 k l x i) l := by
  intro d
  induction d with
  | zero =>
    intro x i h0 hd hx he
    refine Ev.step (fun k => by rw [laws_toByteS.l0]) ?_
    simp only [if_neg (show ¬ i < (l.length : Int) by omega)]
    have : x = l := by
      apply List.ext_getElem hx
      intro j h1 h2
      have := he j (by omega)
      rwa [List.getD_eq_getElem?_getD, List.getD_eq_getElem?_getD, List.getElem?_eq_getElem h1, List.getElem?_eq_getElem h2] at this
    rw [this]
    exact Ev.now _
  | succ d ih =>
    intro x i h0 hd hx he
    refine Ev.step (fun k => by rw [laws_toByteS.l0]) ?_
    simp only [if_pos (show i < (l.length : Int) by omega), if_pos h0, hx]
    rw [w64 (n := i + 1) (by omega) (by omega)]
    refine ih _ (i + 1) (by omega) (by omega) (by simpa using hx) (fun j hj => ?_)
    unfold rd
    rw [List.getD_eq_getElem?_getD, List.getElem?_set]
    by_cases hji : i.toNat = j
    · subst hji
      rw [if_pos rfl, if_pos (by omega)]
      rfl
    · rw [if_neg hji, ← List.getD_eq_getElem?_getD]
      exact he j (by omega)

theorem toByteS_eq (l : List Int) (hl : l.length ≤ 1099511627776) : Ev (fun k => laws_toByteS.f k l) l := by
  unfold laws_toByteS.f
  simp only [if_pos (show 0 ≤ (l.length : Int) by omega), if_pos (show ((l.length : Int)).toNat ≤ 281474976710656 by omega)]
  exact toByteS_loop l hl l.length _ 0 (by omega) (by omega) (by simp) (fun j hj => by omega)

theorem eqByteS_loop (l : List Int) (hl : l.length ≤ 1099511627776) : ∀ (d : Nat) (i : Int), 0 ≤ i → (l.length : Int) - i = d → Ev (fun k => laws_eqByteS.l0 k l l i) true := by
  intro d
  induction d with
  | zero =>
    intro i h0 hd
    refine Ev.step (fun k => by rw [laws_eqByteS.l0]) ?_
    simp only [if_neg (show ¬ i < (l.length : Int) by omega)]
    exact Ev.now _
  | succ d ih =>
    intro i h0 hd
    refine Ev.step (fun k => by rw [laws_eqByteS.l0]) ?_
    simp only [if_pos (show i < (l.length : Int) by omega), if_pos h0, if_true]
    rw [w64 (n := i + 1) (by omega) (by omega)]
    exact ih (i + 1) (by omega) (by omega)

theorem eqByteS_eq (l : List Int) (hl : l.length ≤ 1099511627776) : Ev (fun k => laws_eqByteS.f k l l) true := by
  unfold laws_eqByteS.f
  simp only [if_true]
  exact eqByteS_loop l hl l.length 0 (by omega) (by omega)

theorem markByteS_loop (n : Nat) (m0 : Int) (hm : 1 ≤ m0) (hm' : m0 ≤ 1099511627776) (hl : n ≤ 1099511627776) : ∀ (d : Nat) (x : List Int) (i : Int), 0 ≤ i → (n : Int) - i = d → x.length = n →
    (∀ j : Nat, (j : Int) < i → x.getD j 0 = (m0 + j) % 256) → Ev (fun k => laws_markByteS.l0 k x (m0 + i) i) (m0 + n, (List.range n).map (fun j => (m0 + ((j : Nat) : Int)) % 256)) := by
  intro d
  induction d with
  | zero =>
    intro x i h0 hd hx he
    refine Ev.step (fun k => by rw [laws_markByteS.l0]) ?_
    simp only [hx, if_neg (show ¬ i < (n : Int) by omega)]
    have : x = (List.range n).map (fun j => (m0 + ((j : Nat) : Int)) % 256) := by
      apply List.ext_getElem (by simpa using hx)
      intro j h1 h2
      have := he j (by omega)
      rw [List.getD_eq_getElem?_getD, List.getElem?_eq_getElem h1] at this
      simpa using this
    rw [this, show m0 + i = m0 + (n : Int) by omega]
    exact Ev.now _
  | succ d ih =>
    intro x i h0 hd hx he
    refine Ev.step (fun k => by rw [laws_markByteS.l0]) ?_
    simp only [hx, if_pos (show i < (n : Int) by omega), if_pos h0]
    rw [w64 (n := i + 1) (by omega) (by omega), w64 (n := m0 + i + 1) (by omega) (by omega), show m0 + i + 1 = m0 + (i + 1) by omega]
    refine ih _ (i + 1) (by omega) (by omega) (by simpa using hx) (fun j hj => ?_)
    rw [List.getD_eq_getElem?_getD, List.getElem?_set]
    by_cases hji : i.toNat = j
    · subst hji
      rw [if_pos rfl, if_pos (by omega)]
      simp only [Option.getD_some]
      omega
    · rw [if_neg hji, ← List.getD_eq_getElem?_getD]
      exact he j (by omega)

def markedB (n : Nat) (m0 : Int) : List Int := (List.range n).map (fun j => (m0 + ((j : Nat) : Int)) % 256)

theorem markByteS_eq (l : List Int) {m0 : Int} (hm : 1 ≤ m0) (hm' : m0 ≤ 1099511627776) (hl : l.length ≤ 1099511627776) : Ev (fun k => laws_markByteS.f k l m0) (m0 + l.length, markedB l.length m0) := by
  unfold laws_markByteS.f
  have := markByteS_loop l.length m0 hm hm' hl l.length l 0 (by omega) (by omega) rfl (fun j hj => by omega)
  rwa [Int.add_zero] at this


theorem eqIntS_loop (l : List Int) (hl : l.length ≤ 1099511627776) : ∀ (d : Nat) (i : Int), 0 ≤ i → (l.length : Int) - i = d → Ev (fun k => laws_eqIntS.l0 k l l i) true := by
  intro d
  induction d with
  | zero =>
    intro i h0 hd
    refine Ev.step (fun k => by rw [laws_eqIntS.l0]) ?_
    simp only [if_neg (show ¬ i < (l.length : Int) by omega)]
    exact Ev.now _
  | succ d ih =>
    intro i h0 hd
    refine Ev.step (fun k => by rw [laws_eqIntS.l0]) ?_
    simp only [if_pos (show i < (l.length : Int) by omega), if_pos h0, if_true]
    rw [w64 (n := i + 1) (by omega) (by omega)]
    exact ih (i + 1) (by omega) (by omega)

theorem eqIntS_eq (l : List Int) (hl : l.length ≤ 1099511627776) : Ev (fun k => laws_eqIntS.f k l l) true := by
  unfold laws_eqIntS.f
  simp only [if_true]
  exact eqIntS_loop l hl l.length 0 (by omega) (by omega)

theorem markIntS_loop (n : Nat) (m0 : Int) (hm : 1 ≤ m0) (hm' : m0 ≤ 1099511627776) (hl : n ≤ 1099511627776) : ∀ (d : Nat) (x : List Int) (i : Int), 0 ≤ i → (n : Int) - i = d → x.length = n →
    (∀ j : Nat, (j : Int) < i → x.getD j 0 = m0 + j) → Ev (fun k => laws_markIntS.l0 k x (m0 + i) i) (m0 + n, (List.range n).map (fun j => m0 + ((j : Nat) : Int))) := by
  intro d
  induction d with
  | zero =>
    intro x i h0 hd hx he
    refine Ev.step (fun k => by rw [laws_markIntS.l0]) ?_
    simp only [hx, if_neg (show ¬ i < (n : Int) by omega)]
    have : x = (List.range n).map (fun j => m0 + ((j : Nat) : Int)) := by
      apply List.ext_getElem (by simpa using hx)
      intro j h1 h2
      have := he j (by omega)
      rw [List.getD_eq_getElem?_getD, List.getElem?_eq_getElem h1] at this
      simpa using this
    rw [this, show m0 + i = m0 + (n : Int) by omega]
    exact Ev.now _
  | succ d ih =>
    intro x i h0 hd hx he
    refine Ev.step (fun k => by rw [laws_markIntS.l0]) ?_
    simp only [hx, if_pos (show i < (n : Int) by omega), if_pos h0]
    rw [w64 (n := i + 1) (by omega) (by omega), w64 (n := m0 + i + 1) (by omega) (by omega), show m0 + i + 1 = m0 + (i + 1) by omega]
    refine ih _ (i + 1) (by omega) (by omega) (by simpa using hx) (fun j hj => ?_)
    rw [List.getD_eq_getElem?_getD, List.getElem?_set]
    by_cases hji : i.toNat = j
    · subst hji
      rw [if_pos rfl, if_pos (by omega)]
      simp only [Option.getD_some]
      omega
    · rw [if_neg hji, ← List.getD_eq_getElem?_getD]
      exact he j (by omega)

def marked (n : Nat) (m0 : Int) : List Int := (List.range n).map (fun j => m0 + ((j : Nat) : Int))

theorem markIntS_eq (l : List Int) {m0 : Int} (hm : 1 ≤ m0) (hm' : m0 ≤ 1099511627776) (hl : l.length ≤ 1099511627776) : Ev (fun k => laws_markIntS.f k l m0) (m0 + l.length, marked l.length m0) := by
  unfold laws_markIntS.f
  have := markIntS_loop l.length m0 hm hm' hl l.length l 0 (by omega) (by omega) rfl (fun j hj => by omega)
  rwa [Int.add_zero] at this

theorem heldIntS_loop (n : Nat) (m0 : Int) (hm : 1 ≤ m0) (hm' : m0 ≤ 1099511627776) (hl : n ≤ 1099511627776) : ∀ (d : Nat) (i : Int), 0 ≤ i → (n : Int) - i = d →
    Ev (fun k => laws_heldIntS.l0 k (marked n m0) (m0 + i) i) (m0 + n) := by
  have hlen : (marked n m0).length = n := by simp [marked]
  intro d
  induction d with
  | zero =>
    intro i h0 hd
    refine Ev.step (fun k => by rw [laws_heldIntS.l0]) ?_
    simp only [hlen, if_neg (show ¬ i < (n : Int) by omega)]
    rw [show m0 + i = m0 + (n : Int) by omega]
    exact Ev.now _
  | succ d ih =>
    intro i h0 hd
    refine Ev.step (fun k => by rw [laws_heldIntS.l0]) ?_
    have hr : rd (marked n m0) i = m0 + i := by
      unfold rd marked
      rw [List.getD_eq_getElem?_getD, List.getElem?_map, List.getElem?_range (by omega)]
      simp only [Option.map_some, Option.getD_some]
      omega
    simp only [hlen, if_pos (show i < (n : Int) by omega), if_pos h0, hr, if_true]
    rw [w64 (n := i + 1) (by omega) (by omega), w64 (n := m0 + i + 1) (by omega) (by omega), show m0 + i + 1 = m0 + (i + 1) by omega]
    exact ih (i + 1) (by omega) (by omega)

theorem heldIntS_eq (n : Nat) {m0 : Int} (hm : 1 ≤ m0) (hm' : m0 ≤ 1099511627776) (hl : n ≤ 1099511627776) : Ev (fun k => laws_heldIntS.f k (marked n m0) m0) (m0 + n) := by
  unfold laws_heldIntS.f
  have := heldIntS_loop n m0 hm hm' hl n 0 (by omega) (by omega)
  rwa [Int.add_zero] at this

theorem trimmed_loop (l : List Int) (hl : l.length ≤ 1099511627776) : ∀ (n : Nat), n ≤ l.length → Ev (fun k => impl_trimmed.l0 k l (n : Int)) (trim (l.take n)) := by
  intro n
  induction n with
  | zero =>
    intro _
    refine Ev.step (fun k => by rw [impl_trimmed.l0]) ?_
    simp only [if_neg (show ¬ ((0 : Nat) : Int) > 0 by omega), if_pos (show 0 ≤ ((0 : Nat) : Int) by omega), if_pos (show ((0 : Nat) : Int) ≤ (l.length : Int) by omega)]
    simpa [trim] using Ev.now ([] : List Int)
  | succ n ih =>
    intro hn
    refine Ev.step (fun k => by rw [impl_trimmed.l0]) ?_
    rw [take_snoc (show n < l.length by omega)]
    simp only [if_pos (show ((n + 1 : Nat) : Int) > 0 by omega), wpred (show n ≤ 1099511627776 by omega), if_pos (show 0 ≤ (n : Int) by omega), if_pos (show (n : Int) < (l.length : Int) by omega), rd, Int.toNat_natCast]
    by_cases h : l.getD n 0 = 0
    · simp only [h, if_true, trim_snoc_zero]
      exact ih (by omega)
    · simp only [if_neg h, if_pos (show 0 ≤ ((n + 1 : Nat) : Int) by omega), if_pos (show ((n + 1 : Nat) : Int) ≤ (l.length : Int) by omega), trim_snoc _ h, take_snoc (show n < l.length by omega)]
      exact Ev.now _

theorem trimmed_eq (l : List Int) (hl : l.length ≤ 1099511627776) : Ev (fun k => impl_trimmed.f k l) (trim l) := by
  have := trimmed_loop l hl l.length (Nat.le_refl _)
  rw [List.take_length] at this
  exact this

theorem norm_loop (l : List Int) (hl : l.length ≤ 1099511627776) : ∀ (n : Nat), n ≤ l.length → Ev (fun k => spec_l1Norm.l0 k l (n : Int)) (trim (l.take n)) := by
  intro n
  induction n with
  | zero =>
    intro _
    refine Ev.step (fun k => by rw [spec_l1Norm.l0]) ?_
    simp only [if_neg (show ¬ ((0 : Nat) : Int) > 0 by omega), if_pos (show 0 ≤ ((0 : Nat) : Int) by omega), if_pos (show ((0 : Nat) : Int) ≤ (l.length : Int) by omega)]
    simpa [trim] using Ev.now ([] : List Int)
  | succ n ih =>
    intro hn
    refine Ev.step (fun k => by rw [spec_l1Norm.l0]) ?_
    rw [take_snoc (show n < l.length by omega)]
    simp only [if_pos (show ((n + 1 : Nat) : Int) > 0 by omega), wpred (show n ≤ 1099511627776 by omega), if_pos (show 0 ≤ (n : Int) by omega), if_pos (show (n : Int) < (l.length : Int) by omega), rd, Int.toNat_natCast]
    by_cases h : l.getD n 0 = 0
    · simp only [h, if_true, trim_snoc_zero]
      exact ih (by omega)
    · simp only [if_neg h, if_pos (show 0 ≤ ((n + 1 : Nat) : Int) by omega), if_pos (show ((n + 1 : Nat) : Int) ≤ (l.length : Int) by omega), trim_snoc _ h, Option.bind_some, List.nil_append, List.length_nil]
      rw [if_pos (by rw [List.length_take]; omega), take_snoc (show n < l.length by omega)]
      exact Ev.now _

theorem norm_eq (l : List Int) (hl : l.length ≤ 1099511627776) : Ev (fun k => spec_l1Norm.f k l) (trim l) := by
  have := norm_loop l hl l.length (Nat.le_refl _)
  rw [List.take_length] at this
  exact this

theorem read_loop (l : List Int) (hl : l.length ≤ 128) : ∀ (n : Nat) (i : Int) (x : List Int), i + 1 ≤ n → -2 ≤ i → i < l.length → x.length + (i + 2) ≤ 300 →
    ∃ r, r.length ≤ 300 ∧ Ev (fun k => spec_NatRead.l0 k l x i) (trim r, true) ∧ Ev (fun k => impl_natRead.l0 k l x i) (trim r) := by
  intro n
  induction n with
  | zero =>
    intro i x h1 h2 h3 h4
    refine ⟨x, by omega, Ev.step (fun k => by rw [spec_NatRead.l0]) ?_, Ev.step (fun k => by rw [impl_natRead.l0]) ?_⟩
    · simp only [if_neg (show ¬ i ≥ 0 by omega)]
      exact Ev.bind (norm_eq x (by omega)) (Ev.now _)
    · simp only [if_neg (show ¬ i ≥ 0 by omega)]
      exact Ev.bind (trimmed_eq x (by omega)) (Ev.now _)
  | succ n ih =>
    intro i x h1 h2 h3 h4
    by_cases h0 : i ≥ 0
    · by_cases hp : i > 0
      · obtain ⟨r, hr, r1, r2⟩ := ih (i - 2) (x ++ [wrap64 ((wrap64 (rd l i)) + (wrap64 (256 * (wrap64 (rd l (i - 1))))))]) (by omega) (by omega) (by omega) (by simp; omega)
        refine ⟨r, hr, Ev.step (fun k => by rw [spec_NatRead.l0]) ?_, Ev.step (fun k => by rw [impl_natRead.l0]) ?_⟩
        · rw [w64 (n := i - 1) (by omega) (by omega), w64 (n := i - 2) (by omega) (by omega)]
          simp only [if_pos h0, if_pos (show 0 ≤ i by omega), if_pos h3, if_pos hp, if_pos (show 0 ≤ i - 1 by omega), if_pos (show i - 1 < (l.length : Int) by omega), if_pos (show x.length < 17592186044416 by omega)]
          exact r1
        · rw [w64 (n := i - 1) (by omega) (by omega), w64 (n := i - 2) (by omega) (by omega), Int.mul_comm (wrap64 (rd l (i - 1))) 256]
          simp only [if_pos h0, if_pos (show 0 ≤ i by omega), if_pos h3, if_pos hp, if_pos (show 0 ≤ i - 1 by omega), if_pos (show i - 1 < (l.length : Int) by omega), if_pos (show x.length < 17592186044416 by omega)]
          exact r2
      · obtain ⟨r, hr, r1, r2⟩ := ih (i - 2) (x ++ [wrap64 (rd l i)]) (by omega) (by omega) (by omega) (by simp; omega)
        refine ⟨r, hr, Ev.step (fun k => by rw [spec_NatRead.l0]) ?_, Ev.step (fun k => by rw [impl_natRead.l0]) ?_⟩
        · rw [w64 (n := i - 2) (by omega) (by omega)]
          simp only [if_pos h0, if_pos (show 0 ≤ i by omega), if_pos h3, if_neg hp, if_pos (show x.length < 17592186044416 by omega)]
          exact r1
        · rw [w64 (n := i - 2) (by omega) (by omega)]
          simp only [if_pos h0, if_pos (show 0 ≤ i by omega), if_pos h3, if_neg hp, if_pos (show x.length < 17592186044416 by omega)]
          exact r2
    · exact ih i x (by omega) h2 h3 h4

theorem both (l : List Int) (hl : l.length ≤ 1048576) : ∃ r bb, r.length ≤ 300 ∧ Ev (fun k => spec_NatRead.f k l) (r, bb) ∧ Ev (fun k => impl_NatRead.f k l) (r, bb) := by
  unfold spec_NatRead.f impl_NatRead.f impl_natRead.f
  by_cases h : (l.length : Int) > 128
  · simp only [if_pos h]
    exact ⟨[], false, by simp, Ev.now _, Ev.now _⟩
  · simp only [if_neg h]
    obtain ⟨r, hr, r1, r2⟩ := read_loop l (by omega) l.length ((l.length : Int) - 1) [] (by omega) (by omega) (by omega) (by simp; omega)
    have := trim_len r
    rw [w64 (by omega) (by omega)]
    exact ⟨trim r, true, by omega, r1, Ev.bind r2 (Ev.now _)⟩

theorem FnExactNatRead : laws_FnExactNatRead.Pure := by
  intro a _ _ _
  refine Ev.rounds (r := true) ?_
  unfold laws_FnExactNatRead.f
  by_cases h : (a.length : Int) > 1048576
  · simp only [if_pos h]; exact Ev.now _
  simp only [if_neg h]
  have ta := toByteS_eq a (by omega)
  have ea := eqByteS_eq a (by omega)
  obtain ⟨r, bb, hl, r1, r2⟩ := both a (by omega)
  have er := eqIntS_eq r (by omega)
  have ma := markByteS_eq a (m0 := 1) (by omega) (by omega) (by omega)
  have mr := markIntS_eq r (m0 := 1) (by omega) (by omega) (by omega)
  have hr := heldIntS_eq r.length (m0 := 1) (by omega) (by omega) (by omega)
  have f1 : ¬ (1 : Int) + a.length < 0 := by omega
  have f2 : ¬ (1 : Int) + r.length < 0 := by omega
  refine Ev.bind ta (Ev.bind r1 (Ev.bind ta (Ev.bind r2 (Ev.bind er ?_))))
  simp only [if_true, bne_self_eq_false]
  refine Ev.step (fun k => by rw [laws_FnExactNatRead.j0]) ?_
  simp only [Bool.false_eq_true, if_false]
  refine Ev.bind ta (Ev.bind ea ?_)
  simp only [if_true]
  refine Ev.bind ma ?_
  simp only [if_neg f1]
  refine Ev.bind er ?_
  simp only [if_true, bne_self_eq_false]
  refine Ev.step (fun k => by rw [laws_FnExactNatRead.j1]) ?_
  simp only [Bool.false_eq_true, if_false]
  refine Ev.bind mr (Ev.bind hr ?_)
  simp only [if_neg f2, if_true]
  refine Ev.bind ta (Ev.bind r2 (Ev.bind er ?_))
  simp only [if_true, bne_self_eq_false]
  refine Ev.step (fun k => by rw [laws_FnExactNatRead.j2]) ?_
  simp only [Bool.false_eq_true, if_false]
  refine Ev.bind hr ?_
  simp only [if_neg f2, if_true]
  exact Ev.now _

end Go.Proofs.Ytohplbcbkggjaaa.Pure
