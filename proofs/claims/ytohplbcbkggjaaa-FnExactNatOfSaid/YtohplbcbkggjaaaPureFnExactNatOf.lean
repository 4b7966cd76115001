/- The law FnExactNatOf answers true at all numbers: both come to the same digits, and these are the call's own. -/
import Derived.Test.YtohplbcbkggjaaaPFnExactNatOfx2
namespace Go.Proofs.Ytohplbcbkggjaaa.Pure
open Go.RowKit Go.Proofs.Ytohplbcbkggjaaa.PFnExactNatOf Go.Proofs.YtohplbcbkggjaaaW.PrintWords Go.Proofs.YtohplbcbkggjaaaW.PrintLast

theorem w64 {n : Int} (h : -9223372036854775808 ≤ n) (h' : n ≤ 9223372036854775807) : wrap64 n = n := by
  unfold wrap64
  omega

theorem wf64 {n : Int} (h : (Lit.int .i64 n).wf = true) : -9223372036854775808 ≤ n ∧ n ≤ 9223372036854775807 := by
  simpa [Lit.wf, IntKind.min, IntKind.max, IntKind.signed, IntKind.bits] using h

theorem eqIntS_loop (l : List Int) (hl : l.length ≤ 1099511627776) : ∀ (d : Nat) (i : Int), 0 ≤ i → (l.length : Int) - i = d → Ev (fun k => laws_eqIntS.l0 k l l i) true := by
  intro d
  induction d with
  | zero =>
    intro i h0 hd
    refine Ev.step (fun k => by rw [laws_eqIntS.l0]) ?_
    simp only [if_neg (show ¬ i < (l.length : Int) by omega)]
    exact Ev.now _
  | succ d ih =>
    intro i h0 hd
    refine Ev.step (fun k => by rw [laws_eqIntS.l0]) ?_
    simp only [if_pos (show i < (l.length : Int) by omega), if_pos h0, if_true]
    rw [w64 (n := i + 1) (by omega) (by omega)]
    exact ih (i + 1) (by omega) (by omega)

theorem eqIntS_eq (l : List Int) (hl : l.length ≤ 1099511627776) : Ev (fun k => laws_eqIntS.f k l l) true := by
  unfold laws_eqIntS.f
  simp only [if_true]
  exact eqIntS_loop l hl l.length 0 (by omega) (by omega)

theorem markIntS_loop (n : Nat) (m0 : Int) (hm : 1 ≤ m0) (hm' : m0 ≤ 1099511627776) (hl : n ≤ 1099511627776) : ∀ (d : Nat) (x : List Int) (i : Int), 0 ≤ i → (n : Int) - i = d → x.length = n →
    (∀ j : Nat, (j : Int) < i → x.getD j 0 = m0 + j) → Ev (fun k => laws_markIntS.l0 k x (m0 + i) i) (m0 + n, (List.range n).map (fun j => m0 + ((j : Nat) : Int))) := by
  intro d
  induction d with
  | zero =>
    intro x i h0 hd hx he
    refine Ev.step (fun k => by rw [laws_markIntS.l0]) ?_
    simp only [hx, if_neg (show ¬ i < (n : Int) by omega)]
    have : x = (List.range n).map (fun j => m0 + ((j : Nat) : Int)) := by
      apply List.ext_getElem (by simpa using hx)
      intro j h1 h2
      have := he j (by omega)
      rw [List.getD_eq_getElem?_getD, List.getElem?_eq_getElem h1] at this
      simpa using this
    rw [this, show m0 + i = m0 + (n : Int) by omega]
    exact Ev.now _
  | succ d ih =>
    intro x i h0 hd hx he
    refine Ev.step (fun k => by rw [laws_markIntS.l0]) ?_
    simp only [hx, if_pos (show i < (n : Int) by omega), if_pos h0]
    rw [w64 (n := i + 1) (by omega) (by omega), w64 (n := m0 + i + 1) (by omega) (by omega), show m0 + i + 1 = m0 + (i + 1) by omega]
    refine ih _ (i + 1) (by omega) (by omega) (by simpa using hx) (fun j hj => ?_)
    rw [List.getD_eq_getElem?_getD, List.getElem?_set]
    by_cases hji : i.toNat = j
    · subst hji
      rw [if_pos rfl, if_pos (by omega)]
      simp only [Option.getD_some]
      omega
    · rw [if_neg hji, ← List.getD_eq_getElem?_getD]
      exact he j (by omega)

def marked (n : Nat) (m0 : Int) : List Int := (List.range n).map (fun j => m0 + ((j : Nat) : Int))

theorem markIntS_eq (l : List Int) {m0 : Int} (hm : 1 ≤ m0) (hm' : m0 ≤ 1099511627776) (hl : l.length ≤ 1099511627776) : Ev (fun k => laws_markIntS.f k l m0) (m0 + l.length, marked l.length m0) := by
  unfold laws_markIntS.f
  have := markIntS_loop l.length m0 hm hm' hl l.length l 0 (by omega) (by omega) rfl (fun j hj => by omega)
  rwa [Int.add_zero] at this

theorem heldIntS_loop (n : Nat) (m0 : Int) (hm : 1 ≤ m0) (hm' : m0 ≤ 1099511627776) (hl : n ≤ 1099511627776) : ∀ (d : Nat) (i : Int), 0 ≤ i → (n : Int) - i = d →
    Ev (fun k => laws_heldIntS.l0 k (marked n m0) (m0 + i) i) (m0 + n) := by
  have hlen : (marked n m0).length = n := by simp [marked]
  intro d
  induction d with
  | zero =>
    intro i h0 hd
    refine Ev.step (fun k => by rw [laws_heldIntS.l0]) ?_
    simp only [hlen, if_neg (show ¬ i < (n : Int) by omega)]
    rw [show m0 + i = m0 + (n : Int) by omega]
    exact Ev.now _
  | succ d ih =>
    intro i h0 hd
    refine Ev.step (fun k => by rw [laws_heldIntS.l0]) ?_
    have hr : rd (marked n m0) i = m0 + i := by
      unfold rd marked
      rw [List.getD_eq_getElem?_getD, List.getElem?_map, List.getElem?_range (by omega)]
      simp only [Option.map_some, Option.getD_some]
      omega
    simp only [hlen, if_pos (show i < (n : Int) by omega), if_pos h0, hr, if_true]
    rw [w64 (n := i + 1) (by omega) (by omega), w64 (n := m0 + i + 1) (by omega) (by omega), show m0 + i + 1 = m0 + (i + 1) by omega]
    exact ih (i + 1) (by omega) (by omega)

theorem heldIntS_eq (n : Nat) {m0 : Int} (hm : 1 ≤ m0) (hm' : m0 ≤ 1099511627776) (hl : n ≤ 1099511627776) : Ev (fun k => laws_heldIntS.f k (marked n m0) m0) (m0 + n) := by
  unfold laws_heldIntS.f
  have := heldIntS_loop n m0 hm hm' hl n 0 (by omega) (by omega)
  rwa [Int.add_zero] at this

theorem loops : ∀ (m : Nat) (a : Int) (x : List Int), a < 65536 ^ m → a ≤ 9223372036854775807 → x.length + m ≤ 100 →
    ∃ r, r.length ≤ 100 ∧ Ev (fun k => spec_NatOf.l0 k a x) (r, true) ∧ Ev (fun k => impl_natOf.l0 k a x) r := by
  intro m
  induction m with
  | zero =>
    intro a x h1 h2 h3
    have h0 : ¬ a > 0 := by simp at h1; omega
    refine ⟨x, by omega, Ev.step (fun k => by rw [spec_NatOf.l0]) ?_, Ev.step (fun k => by rw [impl_natOf.l0]) ?_⟩
    · simp only [if_neg h0]; exact Ev.now _
    · simp only [if_neg h0]; exact Ev.now _
  | succ m ih =>
    intro a x h1 h2 h3
    by_cases h0 : a > 0
    · have e1 : a.tdiv 65536 = a / 65536 := Int.tdiv_eq_ediv_of_nonneg (by omega)
      rw [Int.pow_succ] at h1
      obtain ⟨r, hr, r1, r2⟩ := ih (a / 65536) (x ++ [a.tmod 65536]) (by omega) (by omega) (by simp; omega)
      refine ⟨r, hr, Ev.step (fun k => by rw [spec_NatOf.l0]) ?_, Ev.step (fun k => by rw [impl_natOf.l0]) ?_⟩
      · simp only [if_pos h0, if_pos (show x.length < 17592186044416 by omega)]
        rw [e1, w64 (by omega) (by omega)]; exact r1
      · simp only [if_pos h0, if_pos (show x.length < 17592186044416 by omega)]
        rw [e1, w64 (by omega) (by omega)]; exact r2
    · refine ⟨x, by omega, Ev.step (fun k => by rw [spec_NatOf.l0]) ?_, Ev.step (fun k => by rw [impl_natOf.l0]) ?_⟩
      · simp only [if_neg h0]; exact Ev.now _
      · simp only [if_neg h0]; exact Ev.now _

theorem both (a : Int) (h : a ≤ 9223372036854775807) : ∃ r b, r.length ≤ 100 ∧ Ev (fun k => spec_NatOf.f k a) (r, b) ∧ Ev (fun k => impl_NatOf.f k a) (r, b) := by
  unfold spec_NatOf.f impl_NatOf.f impl_natOf.f
  by_cases h0 : a < 0
  · simp only [if_pos h0, Option.bind_some]
    exact ⟨[], false, by simp, Ev.now _, Ev.now _⟩
  · simp only [if_neg h0, Option.bind_some]
    obtain ⟨r, hr, r1, r2⟩ := loops 4 a [] (by omega) h (by simp)
    exact ⟨r, true, hr, r1, Ev.bind r2 (Ev.now _)⟩

theorem FnExactNatOf : laws_FnExactNatOf.Pure := by
  intro a ha
  have ha := wf64 ha
  obtain ⟨r, b, hr, e1, e2⟩ := both a ha.2
  have hm := markIntS_eq r (m0 := 1) (by omega) (by omega) (by omega)
  have hh := heldIntS_eq r.length (m0 := 1) (by omega) (by omega) (by omega)
  have he := eqIntS_eq r (by omega)
  refine Ev.rounds (r := true) ?_
  unfold laws_FnExactNatOf.f
  refine Ev.bind e1 (Ev.bind e2 (Ev.bind he ?_))
  simp only [if_true, bne_self_eq_false]
  refine Ev.step (fun k => by rw [laws_FnExactNatOf.j0]) ?_
  simp only [Bool.false_eq_true, if_false]
  refine Ev.bind hm (Ev.bind hh ?_)
  simp only [if_neg (show ¬ (1 : Int) + r.length < 0 by omega), if_true]
  refine Ev.bind e2 (Ev.bind he ?_)
  simp only [if_true, bne_self_eq_false]
  refine Ev.step (fun k => by rw [laws_FnExactNatOf.j1]) ?_
  simp only [Bool.false_eq_true, if_false]
  refine Ev.bind hh ?_
  simp only [if_neg (show ¬ (1 : Int) + r.length < 0 by omega), if_true]
  exact Ev.now _

end Go.Proofs.Ytohplbcbkggjaaa.Pure
