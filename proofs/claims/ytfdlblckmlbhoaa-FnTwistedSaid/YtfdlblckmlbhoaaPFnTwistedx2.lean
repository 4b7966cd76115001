-- Written for this claim by a program of this session.
import Derived.Test.YtfdlblckmlbhoaaPFnTwistedx0
namespace Go.Proofs.Ytfdlblckmlbhoaa.PFnTwisted
open Go.RowKit Go.Proofs.YtfdlblckmlbhoaaW.PrintWords Go.Proofs.YtfdlblckmlbhoaaW.PrintLast Go.Proofs.YtfdlblckmlbhoaaW.PrintMore
attribute [local go_sem] max2_int min2_int max_two min_two max_three min_three max_four min_four   -- for this text's walks alone
set_option linter.unusedVariables false
set_option linter.unusedSimpArgs false

attribute [local go_sem] fld_
/-! ### laws_big: function 5 -/
def laws_big.f (l0 : List Int) : Option (Bool) := some (decide ((l0.length : Int) > 1048576))
set_option maxHeartbeats 8000000 in
set_option maxRecDepth 100000 in
theorem laws_big.calls (A0 : Option Addr) (c0 : Nat) (l0 : List Int) (r : Bool) (w : World) (hr0 : Kd.C (Kd.int .u8) w A0 l0.length l0) (hc0 : l0.length ≤ c0) (h : laws_big.f l0 = some r) :
    Calls Try.prog 5 #[.slice A0 l0.length c0] w fun e w' => e = .returned (.bool r) ∧ Drawn0 w w' := by
  have HR0 := Aside0.mk hr0
  have HC0 := Aside0.mk hc0
  clear hr0 hc0
  have H : (some (decide ((l0.length : Int) > 1048576))) = some r := h
  clear h
  obtain rfl := Option.some.inj H
  go_enter Try.func5, Try.ntmps5
  go_wp2
  go_ret
  exact ⟨by first | rfl | (simp; done) | (simp [*]; done), by repeat (first | exact Drawn0.refl _ | apply Drawn0.step)⟩

/-- A state of type 80 at block g of W; what its slices lead to came in by w0. -/
def IsS80 (w0 W : World) (g : Nat) (f0 : List Int) (f1 : Int) (f2 : Int) : Prop := ∃ A0 c0, W.heap[g]? = some (.cells #[.slice A0 f0.length c0, .int .i64 f1, .int .i64 f2] 80 (0, 0)) ∧ w0.heap.size ≤ g ∧ Kd.C (Kd.int .u8) w0 A0 f0.length f0
theorem IsS80.grown {w0 W : World} {g : Nat} {f0 : List Int} {f1 : Int} {f2 : Int} {W1 : World} {row : Option Nat} (h : IsS80 w0 W g f0 f1 f2) (hw : W.grownBy W1 row) (hne : some g ≠ row) : IsS80 w0 W1 g f0 f1 f2 := by
  obtain ⟨A0, c0, hb, hg, hr0⟩ := h
  exact ⟨A0, c0, blk_grown hb hw hne, hg, hr0⟩
theorem IsS80.own_neN {w0 W : World} {g : Nat} {f0 : List Int} {f1 : Int} {f2 : Int} {α : Type} {d : Kd α} {e : Nat} {base : Nat} {ok : Nat → Prop} {v : Value} {xs : List α} (h : IsS80 w0 W g f0 f1 f2) (ho : Kd.N d e W base ok v xs) (ht : e ≠ 80) : some g ≠ v.ownBlock := by
  obtain ⟨A0, c0, hb, hg, hr0⟩ := h
  exact Kd.N_ne ho hb ht
theorem IsS80.fresh {w0 W : World} {g : Nat} {f0 : List Int} {f1 : Int} {f2 : Int} (h : IsS80 w0 W g f0 f1 f2) : ∀ k, W.heap.size ≤ k → k ≠ g := by
  obtain ⟨A0, c0, hb, hg, hr0⟩ := h
  exact Kd.freshB hb
theorem IsS80.kept {w0 W : World} {g : Nat} {f0 : List Int} {f1 : Int} {f2 : Int} {W1 : World} {S : Nat → Prop} (h : IsS80 w0 W g f0 f1 f2) (hk : Kept W W1 S) (hne : ¬ S g) : IsS80 w0 W1 g f0 f1 f2 := by
  obtain ⟨A0, c0, hb, hg, hr0⟩ := h
  exact ⟨A0, c0, blk_kept hb hk hne, hg, hr0⟩
theorem IsS80.below {w0 W : World} {g : Nat} {f0 : List Int} {f1 : Int} {f2 : Int} {W1 : World} (h : IsS80 w0 W g f0 f1 f2) (hw : Below W.heap.size W W1) : IsS80 w0 W1 g f0 f1 f2 := h.grown (grown_of_below hw none) (by simp)
theorem IsS80.alloc {w0 W : World} {g : Nat} {f0 : List Int} {f1 : Int} {f2 : Int} (h : IsS80 w0 W g f0 f1 f2) (o : Obj) : IsS80 w0 (W.alloc o) g f0 f1 f2 := h.below (below_alloc (Below.refl _ _) o)
theorem IsS80.drewN {w0 W : World} {g : Nat} {f0 : List Int} {f1 : Int} {f2 : Int} (h : IsS80 w0 W g f0 f1 f2) (m : Nat) : IsS80 w0 (W.drewN m) g f0 f1 f2 := h
theorem IsS80.drew {w0 W : World} {g : Nat} {f0 : List Int} {f1 : Int} {f2 : Int} (h : IsS80 w0 W g f0 f1 f2) : IsS80 w0 W.drew g f0 f1 f2 := h
theorem IsS80.at_ {w0 W : World} {g : Nat} {f0 : List Int} {f1 : Int} {f2 : Int} {w' : World} {m : Nat} (hq : W.drewN m = w') (h : IsS80 w0 W g f0 f1 f2) : IsS80 w0 w' g f0 f1 f2 := by subst hq; exact IsS80.drewN h m
theorem IsS80.apart {w0 W : World} {g : Nat} {f0 : List Int} {f1 : Int} {f2 : Int} {α : Type} {d : Kd α} {e : Nat} {base : Nat} {ok : Nat → Prop} {v : Value} {xs : List α} (h : IsS80 w0 W g f0 f1 f2) (ho : d.R e W base ok v xs) (ht : ∀ q, q ∈ e :: d.E → q ≠ 80) : d.R e W base (fun k => ok k ∧ k ≠ g) v xs := by
  obtain ⟨A0, c0, hb, hg, hr0⟩ := h
  exact Kd.R_types ho hb ht
theorem IsS80.own_ne {w0 W : World} {g : Nat} {f0 : List Int} {f1 : Int} {f2 : Int} {α : Type} {d : Kd α} {e : Nat} {base : Nat} {ok : Nat → Prop} {v : Value} {xs : List α} (h : IsS80 w0 W g f0 f1 f2) (ho : d.R e W base ok v xs) (ht : e ≠ 80) : some g ≠ v.ownBlock := by
  obtain ⟨A0, c0, hb, hg, hr0⟩ := h
  exact Kd.R_ne ho hb ht
theorem IsS80.apartQ {w0 W : World} {g : Nat} {f0 : List Int} {f1 : Int} {f2 : Int} {α : Type} {d : Kd α} {e : Nat} {base : Nat} {ok : Nat → Prop} {v : Value} {xs : List α} (h : IsS80 w0 W g f0 f1 f2) (ho : d.Q e W base ok v xs) (ht : ∀ q, q ∈ e :: d.E → q ≠ 80) : d.Q e W base (fun k => ok k ∧ k ≠ g) v xs := by
  obtain ⟨A0, c0, hb, hg, hr0⟩ := h
  exact Kd.Q_types ho hb ht
theorem IsS80.own_neQ {w0 W : World} {g : Nat} {f0 : List Int} {f1 : Int} {f2 : Int} {α : Type} {d : Kd α} {e : Nat} {base : Nat} {ok : Nat → Prop} {v : Value} {xs : List α} (h : IsS80 w0 W g f0 f1 f2) (ho : d.Q e W base ok v xs) (ht : e ≠ 80) : some g ≠ v.ownBlock := by
  obtain ⟨A0, c0, hb, hg, hr0⟩ := h
  exact Kd.Q_ne ho hb ht
theorem IsS80.apartS {w0 W : World} {g : Nat} {f0 : List Int} {f1 : Int} {f2 : Int} {α : Type} {d : Kd α} {e : Nat} {base : Nat} {ok : Nat → Prop} {v : Value} {xs : List α} (h : IsS80 w0 W g f0 f1 f2) (ho : d.S e W base ok v xs) (ht : ∀ q, q ∈ e :: d.E → q ≠ 80) : d.S e W base (fun k => ok k ∧ k ≠ g) v xs := by
  obtain ⟨A0, c0, hb, hg, hr0⟩ := h
  exact Kd.S_types ho hb ht
theorem IsS80.own_neS {w0 W : World} {g : Nat} {f0 : List Int} {f1 : Int} {f2 : Int} {α : Type} {d : Kd α} {e : Nat} {base : Nat} {ok : Nat → Prop} {v : Value} {xs : List α} (h : IsS80 w0 W g f0 f1 f2) (ho : d.S e W base ok v xs) (ht : e ≠ 80) : some g ≠ v.ownBlock := by
  obtain ⟨A0, c0, hb, hg, hr0⟩ := h
  exact Kd.S_ne ho hb ht
theorem IsS80.lt {w0 W : World} {g : Nat} {f0 : List Int} {f1 : Int} {f2 : Int} (h : IsS80 w0 W g f0 f1 f2) : g < W.heap.size := by
  obtain ⟨A0, c0, hb, hg, hr0⟩ := h
  exact blk_lt hb
theorem IsS80.ge {w0 W : World} {g : Nat} {f0 : List Int} {f1 : Int} {f2 : Int} (h : IsS80 w0 W g f0 f1 f2) : w0.heap.size ≤ g := by
  obtain ⟨A0, c0, hb, hg, hr0⟩ := h
  exact hg
theorem IsS80.ne_blk {w0 W : World} {g : Nat} {f0 : List Int} {f1 : Int} {f2 : Int} {a : Nat} {cs : Array Value} {t : TypeId} {fr : Nat × Nat} (h : IsS80 w0 W g f0 f1 f2) (hb2 : W.heap[a]? = some (.cells cs t fr)) (ht : t ≠ 80) : g ≠ a := by
  obtain ⟨A0, c0, hb, hg, hr0⟩ := h
  rintro rfl
  rw [hb] at hb2
  injection hb2 with hb2
  injection hb2 with _ ht2
  exact ht ht2.symm
theorem IsS80.far {w0 W : World} {g : Nat} {f0 : List Int} {f1 : Int} {f2 : Int} {p : Addr} (h : IsS80 w0 W g f0 f1 f2) (hne : g ≠ p.block) (u : Value) : IsS80 w0 (W.setCell p u) g f0 f1 f2 := by
  obtain ⟨A0, c0, hb, hg, hr0⟩ := h
  exact ⟨A0, c0, blk_far hb hne u, hg, hr0⟩
theorem cellS80_0 {W : World} {g : Nat} {A0 : Option Addr} {c0 : Nat} {f0 : List Int} {f1 : Int} {f2 : Int} (h : W.heap[g]? = some (.cells #[.slice A0 f0.length c0, .int .i64 f1, .int .i64 f2] 80 (0, 0))) : W.cell? ⟨g, 0, none⟩ = some (.slice A0 f0.length c0) := (blk_cell h 0).trans rfl
theorem cellS80_1 {W : World} {g : Nat} {A0 : Option Addr} {c0 : Nat} {f0 : List Int} {f1 : Int} {f2 : Int} (h : W.heap[g]? = some (.cells #[.slice A0 f0.length c0, .int .i64 f1, .int .i64 f2] 80 (0, 0))) : W.cell? ⟨g, 1, none⟩ = some (.int .i64 f1) := (blk_cell h 1).trans rfl
theorem IsS80.set_1 {w0 W : World} {g : Nat} {f0 : List Int} {f1 : Int} {f2 : Int} (h : IsS80 w0 W g f0 f1 f2) (x : Int) : IsS80 w0 (W.setCell ⟨g, 1, none⟩ (.int .i64 x)) g f0 x f2 := by
  obtain ⟨A0, c0, hb, hg, hr0⟩ := h
  exact ⟨A0, c0, by simpa using blk_set hb 1 (.int .i64 x), hg, hr0⟩
theorem cellS80_2 {W : World} {g : Nat} {A0 : Option Addr} {c0 : Nat} {f0 : List Int} {f1 : Int} {f2 : Int} (h : W.heap[g]? = some (.cells #[.slice A0 f0.length c0, .int .i64 f1, .int .i64 f2] 80 (0, 0))) : W.cell? ⟨g, 2, none⟩ = some (.int .i64 f2) := (blk_cell h 2).trans rfl
theorem IsS80.set_2 {w0 W : World} {g : Nat} {f0 : List Int} {f1 : Int} {f2 : Int} (h : IsS80 w0 W g f0 f1 f2) (x : Int) : IsS80 w0 (W.setCell ⟨g, 2, none⟩ (.int .i64 x)) g f0 f1 x := by
  obtain ⟨A0, c0, hb, hg, hr0⟩ := h
  exact ⟨A0, c0, by simpa using blk_set hb 2 (.int .i64 x), hg, hr0⟩
theorem IsS80.new (w0 W : World) (A0 : Option Addr) (c0 : Nat) (f0 : List Int) (f1 : Int) (f2 : Int) (hB : Below w0.heap.size w0 W) (hr0 : Kd.C (Kd.int .u8) w0 A0 f0.length f0) : IsS80 w0 (W.alloc (.cells #[.slice A0 f0.length c0, .int .i64 f1, .int .i64 f2] 80)) W.heap.size f0 f1 f2 := ⟨A0, c0, by simpa using heap_alloc_new W _, hB.size, hr0⟩

attribute [local go_sem] fld_
/-! ### spec_l1New: function 20 -/
def spec_l1New.l0 : Nat → List Int → Int → Int → Option (List Int × Int × Int)
  | 0, _, _, _ => none
  | k + 1, x0, x3, x4 => if x4 < (x0.length : Int) then (if x4 < 4000 then (if 0 ≤ x4 then (spec_l1New.l0 k x0 (Go.bits .and .i64 (wrap64 ((wrap64 ((wrap64 (x3 * 131)) + (wrap64 (rd x0 x4)))) + 7)) 1073741823) (wrap64 (x4 + 1))) else (none)) else (some (x0, 0, x3))) else (some (x0, 0, x3))
def spec_l1New.f (k : Nat) (l0 : List Int) : Option (List Int × Int × Int) := spec_l1New.l0 k l0 (wrap64 (148148 + (l0.length : Int))) 0
theorem spec_l1New.mono_l : ∀ k, (∀ y0 y1 y2, LeO (spec_l1New.l0 k y0 y1 y2) (spec_l1New.l0 (k + 1) y0 y1 y2))
  | 0 => fun _ _ _ r h => by simp [spec_l1New.l0] at h
  | k + 1 => by
    have ih0 := spec_l1New.mono_l k
    · intro y0 y1 y2
      unfold spec_l1New.l0
      repeat' first
      | (with_reducible exact ih0 _ _ _)
      | (with_reducible exact LeO.refl _)
      | (with_reducible exact LeO.none _)
      | (with_reducible refine LeO.ite ?_ ?_)
      | (with_reducible refine LeO.bind ?_ (fun _ => ?_))
      | exact ih0 _ _ _
      | exact LeO.none _
      | refine LeO.ite ?_ ?_
      | refine LeO.bind ?_ (fun _ => ?_)
theorem spec_l1New.mono : ∀ a0 k, LeO (spec_l1New.f k a0) (spec_l1New.f (k + 1) a0) := by
  intro a0 k
  have ih0 := spec_l1New.mono_l k
  unfold spec_l1New.f
  repeat' first
      | (with_reducible exact ih0 _ _ _)
      | (with_reducible exact LeO.refl _)
      | (with_reducible exact LeO.none _)
      | (with_reducible refine LeO.ite ?_ ?_)
      | (with_reducible refine LeO.bind ?_ (fun _ => ?_))
      | exact ih0 _ _ _
      | exact LeO.none _
      | refine LeO.ite ?_ ?_
      | refine LeO.bind ?_ (fun _ => ?_)
set_option maxHeartbeats 8000000 in
set_option maxRecDepth 100000 in
theorem spec_l1New.calls (k : Nat) (A0 : Option Addr) (c0 : Nat) (l0 : List Int) (r1 : List Int) (r2 : Int) (r3 : Int) (w0 w : World) (hB : Below w0.heap.size w0 w) (hr0 : Kd.C (Kd.int .u8) w0 A0 l0.length l0) (hc0 : l0.length ≤ c0) (h : spec_l1New.f k l0 = some (r1, r2, r3)) :
    Calls Try.prog 20 #[.slice A0 l0.length c0] w fun e w' => ∃ g_ : Nat, e = .returned (.pointer (some ⟨g_, 0, none⟩)) ∧ IsS80 w0 w' g_ r1 r2 r3 ∧ Below w0.heap.size w0 w' ∧ Below w.heap.size w w' := by
  have hu80 := Try.underlying80
  have HR0 := Aside0.mk hr0
  have HC0 := Aside0.mk hc0
  clear hr0 hc0
  have HBW := Aside0.mk (Below.refl w.heap.size w)
  have HW0 := Aside0.mk hB.size
  have HB := Aside0.mk hB
  clear hB
  have H : (spec_l1New.l0 k l0 (wrap64 (148148 + (l0.length : Int))) 0) = some (r1, r2, r3) := h
  clear h
  have H' := Aside0.mk H
  clear H
  go_enter Try.func20, Try.ntmps20
  go_wp2
  go_loopg [3, 4] k (fun kq v3 v4 w' => ∃ (x3_1 : Int) (x4_1 : Int), v3 = .int .i64 x3_1 ∧ v4 = .int .i64 x4_1 ∧ Aside0 (spec_l1New.l0 kq l0 x3_1 x4_1 = some (r1, r2, r3)) ∧ Aside0 (kq ≤ k) ∧ Aside0 (Below w0.heap.size w0 w') ∧ Aside0 (Below w.heap.size w w'))
  case atStart => exact ⟨(wrap64 (148148 + (l0.length : Int))), (0), (by first | rfl | (simp; done) | (simp [*]; done)), (by first | rfl | (simp; done) | (simp [*]; done)), H', ⟨Nat.le_refl _⟩, ⟨by repeat (first | (with_reducible first | exact HB.out | apply below_alloc | apply pw_below_drewN | apply below_drew1) | exact HB.out)⟩, ⟨by repeat (first | (with_reducible first | exact HBW.out | apply below_alloc | apply pw_below_drewN | apply below_drew1) | exact HBW.out)⟩⟩
  case round =>
    clear H'
    obtain ⟨x3_1, x4_1, rfl, rfl, HA, HK1, HB, HBW2⟩ := hrel
    clear HBW
    have HBW := HBW2
    clear HBW2
    cases gk with
    | zero => exact absurd HA.out (by simp [spec_l1New.l0])
    | succ k1 =>
      have H := HA.out
      clear HA
      simp only [spec_l1New.l0] at H
      by_cases c2 : x4_1 < (l0.length : Int)
      · rw [if_pos c2] at H
        have c2b0 : decide (x4_1 < (l0.length : Int)) = true := decide_eq_true c2
        clear c2
        by_cases c3 : x4_1 < 4000
        · rw [if_pos c3] at H
          have c3b0 : decide (x4_1 < 4000) = true := decide_eq_true c3
          clear c3
          by_cases c4 : 0 ≤ x4_1
          · rw [if_pos c4] at H
            have c4b0 : decide (0 ≤ x4_1) = true := decide_eq_true c4
            clear c4
            have H' := Aside0.mk H
            clear H
            have p101 : 0 ≤ (x4_1 : Int) := of_decide_eq_true (by first | (with_reducible assumption) | assumption)
            have q101 : x4_1 < (l0.length : Int) := of_decide_eq_true (by first | (with_reducible assumption) | assumption)
            obtain ⟨ad101, e101, hx101_0⟩ := Kd.at_int HR0.out x4_1 p101 q101
            cases e101
            replace hx101_0 := pw_cell_below HB.out hx101_0
            replace p101 := eq_true p101
            replace q101 := eq_true q101
            go_wp2
            go_roundg k1
            case measure => have := HK1.out; omega
            case rel => exact ⟨(Go.bits .and .i64 (wrap64 ((wrap64 ((wrap64 (x3_1 * 131)) + (wrap64 (rd l0 x4_1)))) + 7)) 1073741823), (wrap64 (x4_1 + 1)), (by first | rfl | (simp; done) | (simp [*]; done)), (by first | rfl | (simp; done) | (simp [*]; done)), H', ⟨by have := HK1.out; omega⟩, ⟨by repeat (first | (with_reducible first | exact HB.out | apply below_alloc | apply pw_below_drewN | apply below_drew1) | exact HB.out)⟩, ⟨by repeat (first | (with_reducible first | exact HBW.out | apply below_alloc | apply pw_below_drewN | apply below_drew1) | exact HBW.out)⟩⟩
          · rw [if_neg c4] at H
            exact absurd H (by simp)
        · rw [if_neg c3] at H
          have c3b0 : decide (x4_1 < 4000) = false := decide_eq_false c3
          clear c3
          simp only [Option.some.injEq, Prod.mk.injEq] at H
          obtain ⟨rfl, rfl, rfl⟩ := H
          go_wp2_with (first | ((with_reducible refine gate_dst (N := 31) rfl ?_); refine box_event ?hg (N := 31) ?hd (cs := #[.slice A0 l0.length c0, .int .i64 0, .int .i64 x3_1]) (t := 80) ?hr ?_; (case hd => rfl); (case hg => rfl); (case hr => first | (go_simp; done) | (go_simp; rfl)); intro gb102 hg w5 hbox hb; have n0_ := Aside0.mk (below_step HBW.out hb); have n1_ := Aside0.mk (below_step (by repeat (first | (with_reducible first | exact HB.out | apply below_alloc | apply pw_below_drewN | apply below_drew1) | exact HB.out)) hb); have n2_ := Aside0.mk (hbox); have n3_ := Aside0.mk ((by rw [hg]; exact (below_size (by repeat (first | (with_reducible first | exact HBW.out | apply below_alloc | apply pw_below_drewN | apply below_drew1) | exact HBW.out))) : w.heap.size ≤ gb102)); have n4_ := Aside0.mk ((Nat.le_trans HW0.out (by rw [hg]; exact (below_size (by repeat (first | (with_reducible first | exact HBW.out | apply below_alloc | apply pw_below_drewN | apply below_drew1) | exact HBW.out))) : w.heap.size ≤ gb102) : w0.heap.size ≤ gb102)); clear HBW; clear HB; have HBW := n0_; have HB := n1_; have BK102 := n2_; have GW102 := n3_; have GE102 := n4_; clear n0_ n1_ n2_ n3_ n4_; clear hb hbox hg))
          go_ret
          exact ⟨_, rfl, (show IsS80 w0 _ gb102 l0 0 x3_1 from ⟨_, _, by (with_reducible repeat (first | refine blk_drewN ?_ _ | refine blk_drew ?_ | refine blk_alloc ?_ _)); exact BK102.out, GE102.out, HR0.out⟩), by repeat (first | (with_reducible first | exact HB.out | apply below_alloc | apply pw_below_drewN | apply below_drew1 | refine below_set ?_ GE102.out) | exact HB.out), by repeat (first | (with_reducible first | exact HBW.out | apply below_alloc | apply pw_below_drewN | apply below_drew1 | refine below_set ?_ GW102.out) | exact HBW.out)⟩
      · rw [if_neg c2] at H
        have c2b0 : decide (x4_1 < (l0.length : Int)) = false := decide_eq_false c2
        clear c2
        simp only [Option.some.injEq, Prod.mk.injEq] at H
        obtain ⟨rfl, rfl, rfl⟩ := H
        go_wp2_with (first | ((with_reducible refine gate_dst (N := 31) rfl ?_); refine box_event ?hg (N := 31) ?hd (cs := #[.slice A0 l0.length c0, .int .i64 0, .int .i64 x3_1]) (t := 80) ?hr ?_; (case hd => rfl); (case hg => rfl); (case hr => first | (go_simp; done) | (go_simp; rfl)); intro gb103 hg w6 hbox hb; have n0_ := Aside0.mk (below_step HBW.out hb); have n1_ := Aside0.mk (below_step (by repeat (first | (with_reducible first | exact HB.out | apply below_alloc | apply pw_below_drewN | apply below_drew1) | exact HB.out)) hb); have n2_ := Aside0.mk (hbox); have n3_ := Aside0.mk ((by rw [hg]; exact (below_size (by repeat (first | (with_reducible first | exact HBW.out | apply below_alloc | apply pw_below_drewN | apply below_drew1) | exact HBW.out))) : w.heap.size ≤ gb103)); have n4_ := Aside0.mk ((Nat.le_trans HW0.out (by rw [hg]; exact (below_size (by repeat (first | (with_reducible first | exact HBW.out | apply below_alloc | apply pw_below_drewN | apply below_drew1) | exact HBW.out))) : w.heap.size ≤ gb103) : w0.heap.size ≤ gb103)); clear HBW; clear HB; have HBW := n0_; have HB := n1_; have BK103 := n2_; have GW103 := n3_; have GE103 := n4_; clear n0_ n1_ n2_ n3_ n4_; clear hb hbox hg))
        go_ret
        exact ⟨_, rfl, (show IsS80 w0 _ gb103 l0 0 x3_1 from ⟨_, _, by (with_reducible repeat (first | refine blk_drewN ?_ _ | refine blk_drew ?_ | refine blk_alloc ?_ _)); exact BK103.out, GE103.out, HR0.out⟩), by repeat (first | (with_reducible first | exact HB.out | apply below_alloc | apply pw_below_drewN | apply below_drew1 | refine below_set ?_ GE103.out) | exact HB.out), by repeat (first | (with_reducible first | exact HBW.out | apply below_alloc | apply pw_below_drewN | apply below_drew1 | refine below_set ?_ GW103.out) | exact HBW.out)⟩

attribute [local go_sem] fld_
/-! ### spec_l4Bases: function 21 -/
def spec_l4Bases.f  : Option ((List (S25))) := some (([(⟨101, 12, 11, 76, 22⟩ : S25), (⟨1021, 6, 263, 87, 232⟩ : S25), (⟨10037, 3, 1279, 8662, 1422⟩ : S25)] : List (S25)))
set_option maxHeartbeats 8000000 in
set_option maxRecDepth 100000 in
theorem spec_l4Bases.calls  (r : List (S25)) (w : World) (h : spec_l4Bases.f  = some r) :
    Calls Try.prog 21 #[] w fun e w' => ∃ v0_ : Value, e = .returned (v0_) ∧ Kd.R k25 25 w' w.heap.size (fun _ => True) v0_ r ∧ Below w.heap.size w w' := by
  have hu25 := Try.underlying25
  have HB := Aside0.mk (Below.refl w.heap.size w)
  have H : (some (([(⟨101, 12, 11, 76, 22⟩ : S25), (⟨1021, 6, 263, 87, 232⟩ : S25), (⟨10037, 3, 1279, 8662, 1422⟩ : S25)] : List (S25)))) = some r := h
  clear h
  obtain ⟨y104, hy104⟩ : ∃ y_ : List (S25), y_ = (([(⟨101, 12, 11, 76, 22⟩ : S25), (⟨1021, 6, 263, 87, 232⟩ : S25), (⟨10037, 3, 1279, 8662, 1422⟩ : S25)] : List (S25))) := ⟨_, rfl⟩
  replace H : (some y104) = some r := by first | (rw [hy104]; with_reducible exact H) | (have H2_ := (Option.bind_some _ _).symm.trans H; rw [hy104]; with_reducible exact H2_) | (have H2_ := (Option.bind_some _ _).symm.trans H; with_reducible exact H2_) | with_reducible exact H | (rw [hy104]; exact H) | exact H
  have Ny104 := Aside0.mk hy104
  clear hy104
  obtain rfl := Option.some.inj H
  go_enter Try.func21, Try.ntmps21
  go_wp2_with (first | ((with_reducible refine gate_dst (N := 4) rfl ?_); refine Kd.R_lit k25 _ 25 ?hg (N := 4) ?hd (xs := ([(⟨101, 12, 11, 76, 22⟩ : S25), (⟨1021, 6, 263, 87, 232⟩ : S25), (⟨10037, 3, 1279, 8662, 1422⟩ : S25)] : List (S25))) (inner := [.int .i64 101, .int .i64 12, .int .i64 11, .int .i64 76, .int .i64 22, .int .i64 1021, .int .i64 6, .int .i64 263, .int .i64 87, .int .i64 232, .int .i64 10037, .int .i64 3, .int .i64 1279, .int .i64 8662, .int .i64 1422]) (ok := fun _ => True) (okp := fun _ => True) ?hr ?hp (fun _ hk => hk) trivial (Below.refl _ _) (Nat.le_refl _) (by simp) ?_; (case hd => rfl); (case hg => rfl); (case hr => first | (go_simp; done) | (go_simp; rfl)); (case hp => exact (Reps.c5 (show Kd.M k25 _ _ _ (⟨101, 12, 11, 76, 22⟩ : S25) [.int .i64 101, .int .i64 12, .int .i64 11, .int .i64 76, .int .i64 22] from (k25_mkM _ _ _ (⟨101, 12, 11, 76, 22⟩ : S25) )) (Reps.c5 (show Kd.M k25 _ _ _ (⟨1021, 6, 263, 87, 232⟩ : S25) [.int .i64 1021, .int .i64 6, .int .i64 263, .int .i64 87, .int .i64 232] from (k25_mkM _ _ _ (⟨1021, 6, 263, 87, 232⟩ : S25) )) (Reps.c5 (show Kd.M k25 _ _ _ (⟨10037, 3, 1279, 8662, 1422⟩ : S25) [.int .i64 10037, .int .i64 3, .int .i64 1279, .int .i64 8662, .int .i64 1422] from (k25_mkM _ _ _ (⟨10037, 3, 1279, 8662, 1422⟩ : S25) )) (Reps.none _ _))))); intro v105 w1 ho2 hb hg_ hnew_; clear hg_ hnew_; (first | rw [← Ny104.out] at ho2 | (simp only [Int.reduceToNat] at ho2; rw [← Ny104.out] at ho2)); have n0_ := Aside0.mk (Kd.R_lower ho2 (below_size (by repeat (first | (with_reducible first | exact HB.out | apply below_alloc | apply pw_below_drewN | apply below_drew1) | exact HB.out)))); have n1_ := Aside0.mk (below_step (by repeat (first | (with_reducible first | exact HB.out | apply below_alloc | apply pw_below_drewN | apply below_drew1) | exact HB.out)) hb); clear HB; have HO106 := n0_; have HB := n1_; clear n0_ n1_; clear hb ho2))
  go_ret
  exact ⟨_, by first | rfl | (simp [errW_none, errW_some] <;> rfl) | (simp [*, errW_none, errW_some] <;> rfl), by (with_reducible repeat (first | apply Kd.R_alloc | apply Kd.R_drewN | apply Kd.R_drew)); exact HO106.out, by repeat (first | (with_reducible first | exact HB.out | apply below_alloc | apply pw_below_drewN | apply below_drew1) | exact HB.out)⟩

attribute [local go_sem] fld_
/-! ### spec_l1Byte: function 36 -/
def spec_l1Byte.f (s0_0 : List Int) (s0_1 : Int) (s0_2 : Int) : Option (Int × Int × Int) := if s0_1 < (s0_0.length : Int) then (if 0 ≤ s0_1 then (some (Go.bits .and .i64 (wrap64 ((Go.bits .and .i64 (Go.bits .xor .i64 ((wrap64 ((wrap64 (s0_2 * 6364136223846793005)) + 1442695040888963407)) / 8589934592) ((wrap64 ((wrap64 (s0_2 * 6364136223846793005)) + 1442695040888963407)) / 35184372088832)) 255) + (wrap64 (rd s0_0 s0_1)))) 255, wrap64 (s0_1 + 1), wrap64 ((wrap64 (s0_2 * 6364136223846793005)) + 1442695040888963407))) else (none)) else (some (Go.bits .and .i64 (Go.bits .xor .i64 ((wrap64 ((wrap64 (s0_2 * 6364136223846793005)) + 1442695040888963407)) / 8589934592) ((wrap64 ((wrap64 (s0_2 * 6364136223846793005)) + 1442695040888963407)) / 35184372088832)) 255, s0_1, wrap64 ((wrap64 (s0_2 * 6364136223846793005)) + 1442695040888963407)))
set_option maxHeartbeats 8000000 in
set_option maxRecDepth 100000 in
theorem spec_l1Byte.calls (g : Nat) (s0_0 : List Int) (s0_1 : Int) (s0_2 : Int) (r1 : Int) (r2 : Int) (r3 : Int) (w0 w : World) (hI : IsS80 w0 w g s0_0 s0_1 s0_2) (hB : Below w0.heap.size w0 w) (h : spec_l1Byte.f s0_0 s0_1 s0_2 = some (r1, r2, r3)) :
    Calls Try.prog 36 #[.pointer (some ⟨g, 0, none⟩)] w fun e w' => e = .returned (.int .i64 r1) ∧ IsS80 w0 w' g s0_0 r2 r3 ∧ Below w0.heap.size w0 w' ∧ KeepBut w w' g none := by
  have HI0 := Aside0.mk hI
  have HK := Aside0.mk (KeepBut.refl w g none)
  have HL := Aside0.mk hB.size
  clear hI
  have HW0 := Aside0.mk hB.size
  have HB := Aside0.mk hB
  clear hB
  have H : (if s0_1 < (s0_0.length : Int) then (if 0 ≤ s0_1 then (some (Go.bits .and .i64 (wrap64 ((Go.bits .and .i64 (Go.bits .xor .i64 ((wrap64 ((wrap64 (s0_2 * 6364136223846793005)) + 1442695040888963407)) / 8589934592) ((wrap64 ((wrap64 (s0_2 * 6364136223846793005)) + 1442695040888963407)) / 35184372088832)) 255) + (wrap64 (rd s0_0 s0_1)))) 255, wrap64 (s0_1 + 1), wrap64 ((wrap64 (s0_2 * 6364136223846793005)) + 1442695040888963407))) else (none)) else (some (Go.bits .and .i64 (Go.bits .xor .i64 ((wrap64 ((wrap64 (s0_2 * 6364136223846793005)) + 1442695040888963407)) / 8589934592) ((wrap64 ((wrap64 (s0_2 * 6364136223846793005)) + 1442695040888963407)) / 35184372088832)) 255, s0_1, wrap64 ((wrap64 (s0_2 * 6364136223846793005)) + 1442695040888963407)))) = some (r1, r2, r3) := h
  clear h
  by_cases c2 : s0_1 < (s0_0.length : Int)
  · rw [if_pos c2] at H
    have c2b0 : decide (s0_1 < (s0_0.length : Int)) = true := decide_eq_true c2
    clear c2
    by_cases c3 : 0 ≤ s0_1
    · rw [if_pos c3] at H
      have c3b0 : decide (0 ≤ s0_1) = true := decide_eq_true c3
      clear c3
      simp only [Option.some.injEq, Prod.mk.injEq] at H
      obtain ⟨rfl, rfl, rfl⟩ := H
      obtain ⟨ASz4_0, cSz4_0, HGz4, hgz4, HSz4_0⟩ := HI0.out
      have hcz4_0 := cellS80_0 HGz4
      have hcz4_1 := cellS80_1 HGz4
      have hcz4_2 := cellS80_2 HGz4
      have hfz4_1 := blk_frozen HGz4 1
      have hfz4_2 := blk_frozen HGz4 2
      clear HGz4 hgz4
      have p107 : 0 ≤ (s0_1 : Int) := of_decide_eq_true (by first | (with_reducible assumption) | assumption)
      have q107 : s0_1 < (s0_0.length : Int) := of_decide_eq_true (by first | (with_reducible assumption) | assumption)
      obtain ⟨ad107, e107, hx107_0⟩ := Kd.at_int HSz4_0 s0_1 p107 q107
      cases e107
      have hn107_0 : ad107.block ≠ g := Nat.ne_of_lt (Nat.lt_of_lt_of_le (by have := World.block_lt_of_cell? _ _ hx107_0; first | rwa [add_block] at this | exact this) (IsS80.ge HI0.out))
      replace hx107_0 := pw_cell_below HB.out hx107_0
      replace hx107_0 := (cell_far (p := ⟨g, 2, none⟩) (by first | (rw [add_block]; exact hn107_0) | (show (Addr.add _ _).block ≠ _; rw [add_block]; exact hn107_0) | exact hn107_0) (.int .i64 (wrap64 ((wrap64 (s0_2 * 6364136223846793005)) + 1442695040888963407)))).trans hx107_0
      (try have hy107_0 := fun (n_ : Nat) => (show (((w.drewN n_).setCell ⟨g, 2, none⟩ (.int .i64 (wrap64 ((wrap64 (s0_2 * 6364136223846793005)) + 1442695040888963407))))).cell? _ = some _ from hx107_0))
      clear hn107_0
      replace p107 := eq_true p107
      replace q107 := eq_true q107
      go_enter Try.func36, Try.ntmps36
      go_wp2
      repeat (go_quiet (fail); try go_wp2)
      go_ret
      exact ⟨by first | rfl | (simp [errW_none, errW_some] <;> rfl) | (simp [*, errW_none, errW_some] <;> rfl), by repeat (first | (with_reducible first | exact HI0.out | apply IsS80.alloc | apply IsS80.drewN | apply IsS80.drew | apply IsS80.set_1 | apply IsS80.set_2) | exact HI0.out), by repeat (first | (with_reducible first | exact HB.out | apply below_alloc | apply pw_below_drewN | apply below_drew1 | refine below_set ?_ (IsS80.ge HI0.out)) | exact HB.out), by repeat (first | (with_reducible first | exact HK.out | apply KeepBut.set_ | apply keep_drewN | apply keep_drew | apply keep_alloc) | exact HK.out)⟩
    · rw [if_neg c3] at H
      exact absurd H (by simp)
  · rw [if_neg c2] at H
    have c2b0 : decide (s0_1 < (s0_0.length : Int)) = false := decide_eq_false c2
    clear c2
    simp only [Option.some.injEq, Prod.mk.injEq] at H
    obtain ⟨rfl, rfl, rfl⟩ := H
    obtain ⟨ASz5_0, cSz5_0, HGz5, hgz5, HSz5_0⟩ := HI0.out
    have hcz5_0 := cellS80_0 HGz5
    have hcz5_1 := cellS80_1 HGz5
    have hcz5_2 := cellS80_2 HGz5
    have hfz5_1 := blk_frozen HGz5 1
    have hfz5_2 := blk_frozen HGz5 2
    clear HGz5 hgz5
    go_enter Try.func36, Try.ntmps36
    go_wp2
    repeat (go_quiet (fail); try go_wp2)
    go_ret
    exact ⟨by first | rfl | (simp [errW_none, errW_some] <;> rfl) | (simp [*, errW_none, errW_some] <;> rfl), by repeat (first | (with_reducible first | exact HI0.out | apply IsS80.alloc | apply IsS80.drewN | apply IsS80.drew | apply IsS80.set_1 | apply IsS80.set_2) | exact HI0.out), by repeat (first | (with_reducible first | exact HB.out | apply below_alloc | apply pw_below_drewN | apply below_drew1 | refine below_set ?_ (IsS80.ge HI0.out)) | exact HB.out), by repeat (first | (with_reducible first | exact HK.out | apply KeepBut.set_ | apply keep_drewN | apply keep_drew | apply keep_alloc) | exact HK.out)⟩

attribute [local go_sem] fld_
/-! ### spec_l1Below: function 22 -/
def spec_l1Below.f (s0_0 : List Int) (s0_1 : Int) (s0_2 : Int) (a1 : Int) : Option (Int × Int × Int) := if a1 ≤ 0 then (some (0, s0_1, s0_2)) else (if a1 ≤ 256 then ((spec_l1Byte.f s0_0 s0_1 s0_2).bind fun bt108 => (if a1 = 0 then (none) else (some (Int.tmod bt108.1 a1, bt108.2.1, bt108.2.2)))) else ((spec_l1Byte.f s0_0 s0_1 s0_2).bind fun bt111 => ((spec_l1Byte.f s0_0 bt111.2.1 bt111.2.2).bind fun bt114 => ((spec_l1Byte.f s0_0 bt114.2.1 bt114.2.2).bind fun bt117 => ((spec_l1Byte.f s0_0 bt117.2.1 bt117.2.2).bind fun bt120 => (if a1 = 0 then (none) else (some (Int.tmod (wrap64 ((wrap64 ((wrap64 ((wrap64 (bt111.1 * 16777216)) + (wrap64 (bt114.1 * 65536)))) + (wrap64 (bt117.1 * 256)))) + bt120.1)) a1, bt120.2.1, bt120.2.2))))))))
set_option maxHeartbeats 8000000 in
set_option maxRecDepth 100000 in
theorem spec_l1Below.calls (g : Nat) (s0_0 : List Int) (s0_1 : Int) (s0_2 : Int) (a1 : Int) (r1 : Int) (r2 : Int) (r3 : Int) (w0 w : World) (hI : IsS80 w0 w g s0_0 s0_1 s0_2) (hB : Below w0.heap.size w0 w) (h : spec_l1Below.f s0_0 s0_1 s0_2 a1 = some (r1, r2, r3)) :
    Calls Try.prog 22 #[.pointer (some ⟨g, 0, none⟩), .int .i64 a1] w fun e w' => e = .returned (.int .i64 r1) ∧ IsS80 w0 w' g s0_0 r2 r3 ∧ Below w0.heap.size w0 w' ∧ KeepBut w w' g none := by
  have HI0 := Aside0.mk hI
  have HK := Aside0.mk (KeepBut.refl w g none)
  have HL := Aside0.mk hB.size
  clear hI
  have HW0 := Aside0.mk hB.size
  have HB := Aside0.mk hB
  clear hB
  have H : (if a1 ≤ 0 then (some (0, s0_1, s0_2)) else (if a1 ≤ 256 then ((spec_l1Byte.f s0_0 s0_1 s0_2).bind fun bt108 => (if a1 = 0 then (none) else (some (Int.tmod bt108.1 a1, bt108.2.1, bt108.2.2)))) else ((spec_l1Byte.f s0_0 s0_1 s0_2).bind fun bt111 => ((spec_l1Byte.f s0_0 bt111.2.1 bt111.2.2).bind fun bt114 => ((spec_l1Byte.f s0_0 bt114.2.1 bt114.2.2).bind fun bt117 => ((spec_l1Byte.f s0_0 bt117.2.1 bt117.2.2).bind fun bt120 => (if a1 = 0 then (none) else (some (Int.tmod (wrap64 ((wrap64 ((wrap64 ((wrap64 (bt111.1 * 16777216)) + (wrap64 (bt114.1 * 65536)))) + (wrap64 (bt117.1 * 256)))) + bt120.1)) a1, bt120.2.1, bt120.2.2))))))))) = some (r1, r2, r3) := h
  clear h
  by_cases c3 : a1 ≤ 0
  · rw [if_pos c3] at H
    have c3b0 : decide (a1 ≤ 0) = true := decide_eq_true c3
    clear c3
    simp only [Option.some.injEq, Prod.mk.injEq] at H
    obtain ⟨rfl, rfl, rfl⟩ := H
    go_enter Try.func22, Try.ntmps22
    go_wp2
    go_ret
    exact ⟨by first | rfl | (simp [errW_none, errW_some] <;> rfl) | (simp [*, errW_none, errW_some] <;> rfl), by repeat (first | (with_reducible first | exact HI0.out | apply IsS80.alloc | apply IsS80.drewN | apply IsS80.drew | apply IsS80.set_1 | apply IsS80.set_2) | exact HI0.out), by repeat (first | (with_reducible first | exact HB.out | apply below_alloc | apply pw_below_drewN | apply below_drew1 | refine below_set ?_ (IsS80.ge HI0.out)) | exact HB.out), by repeat (first | (with_reducible first | exact HK.out | apply KeepBut.set_ | apply keep_drewN | apply keep_drew | apply keep_alloc) | exact HK.out)⟩
  · rw [if_neg c3] at H
    have c3b0 : decide (a1 ≤ 0) = false := decide_eq_false c3
    clear c3
    by_cases c4 : a1 ≤ 256
    · rw [if_pos c4] at H
      have c4b0 : decide (a1 ≤ 256) = true := decide_eq_true c4
      clear c4
      replace H := Option.bind_eq_some_iff.mp H
      obtain ⟨⟨t108, t109, t110⟩, A50, H⟩ := H
      replace H : (if a1 = 0 then (none) else (some (Int.tmod t108 a1, t109, t110))) = some (r1, r2, r3) := H
      have A5 := Aside0.mk A50
      clear A50
      by_cases c6 : a1 = 0
      · rw [if_pos c6] at H
        exact absurd H (by simp)
      · rw [if_neg c6] at H
        have c6b0 : (a1 == 0) = false := beq_eq_false_iff_ne.mpr c6
        have c6b1 : (a1 != 0) = true := bne_iff_ne.mpr c6
        simp only [Option.some.injEq, Prod.mk.injEq] at H
        obtain ⟨rfl, rfl, rfl⟩ := H
        go_enter Try.func22, Try.ntmps22
        go_wp2_with (first | ((with_reducible refine gate_callee (f := 36) rfl ?_); refine goesL_ (some 14) rfl rfl Try.func36 (by kernel_rfl) rfl #[.pointer (some ⟨g, 0, none⟩)] rfl (by (try simp only [List.map_toArray, List.map_cons, List.map_nil]); first | done | rfl | (simp only [List.length_drop, List.length_take]; rfl)) ?_; (with_reducible refine (spec_l1Byte.calls g s0_0 s0_1 s0_2 t108 t109 t110 w0 _ ?side1 ?side2 A5.out).mono ?_); (case side1 => repeat (first | (with_reducible first | exact HI0.out | apply IsS80.alloc | apply IsS80.drewN | apply IsS80.drew | apply IsS80.set_1 | apply IsS80.set_2) | exact HI0.out)); (case side2 => repeat (first | (with_reducible first | exact HB.out | apply below_alloc | apply pw_below_drewN | apply below_drew1 | refine below_set ?_ (IsS80.ge HI0.out)) | exact HB.out)); rintro e w7 ⟨rfl, hi, hb, hk⟩; refine ⟨_, rfl, ?_⟩; have n0_ := Aside0.mk (KeepBut.trans (by repeat (first | (with_reducible first | exact HK.out | apply KeepBut.set_ | apply keep_drewN | apply keep_drew | apply keep_alloc) | exact HK.out)) hk (.inl rfl)); have n1_ := Aside0.mk (hb); have n2_ := Aside0.mk (hi); clear HK; clear HB; clear HI0; have HK := n0_; have HB := n1_; have HI0 := n2_; clear n0_ n1_ n2_; (try clear hb); (try clear hb2); (try clear hk); (try clear hi)))
        go_ret
        exact ⟨by first | rfl | (simp [errW_none, errW_some] <;> rfl) | (simp [*, errW_none, errW_some] <;> rfl), by repeat (first | (with_reducible first | exact HI0.out | apply IsS80.alloc | apply IsS80.drewN | apply IsS80.drew | apply IsS80.set_1 | apply IsS80.set_2) | exact HI0.out), by repeat (first | (with_reducible first | exact HB.out | apply below_alloc | apply pw_below_drewN | apply below_drew1 | refine below_set ?_ (IsS80.ge HI0.out)) | exact HB.out), by repeat (first | (with_reducible first | exact HK.out | apply KeepBut.set_ | apply keep_drewN | apply keep_drew | apply keep_alloc) | exact HK.out)⟩
    · rw [if_neg c4] at H
      have c4b0 : decide (a1 ≤ 256) = false := decide_eq_false c4
      clear c4
      replace H := Option.bind_eq_some_iff.mp H
      obtain ⟨⟨t111, t112, t113⟩, A80, H⟩ := H
      replace H : ((spec_l1Byte.f s0_0 t112 t113).bind fun bt114 => ((spec_l1Byte.f s0_0 bt114.2.1 bt114.2.2).bind fun bt117 => ((spec_l1Byte.f s0_0 bt117.2.1 bt117.2.2).bind fun bt120 => (if a1 = 0 then (none) else (some (Int.tmod (wrap64 ((wrap64 ((wrap64 ((wrap64 (t111 * 16777216)) + (wrap64 (bt114.1 * 65536)))) + (wrap64 (bt117.1 * 256)))) + bt120.1)) a1, bt120.2.1, bt120.2.2)))))) = some (r1, r2, r3) := H
      have A8 := Aside0.mk A80
      clear A80
      replace H := Option.bind_eq_some_iff.mp H
      obtain ⟨⟨t114, t115, t116⟩, A90, H⟩ := H
      replace H : ((spec_l1Byte.f s0_0 t115 t116).bind fun bt117 => ((spec_l1Byte.f s0_0 bt117.2.1 bt117.2.2).bind fun bt120 => (if a1 = 0 then (none) else (some (Int.tmod (wrap64 ((wrap64 ((wrap64 ((wrap64 (t111 * 16777216)) + (wrap64 (t114 * 65536)))) + (wrap64 (bt117.1 * 256)))) + bt120.1)) a1, bt120.2.1, bt120.2.2))))) = some (r1, r2, r3) := H
      have A9 := Aside0.mk A90
      clear A90
      replace H := Option.bind_eq_some_iff.mp H
      obtain ⟨⟨t117, t118, t119⟩, A100, H⟩ := H
      replace H : ((spec_l1Byte.f s0_0 t118 t119).bind fun bt120 => (if a1 = 0 then (none) else (some (Int.tmod (wrap64 ((wrap64 ((wrap64 ((wrap64 (t111 * 16777216)) + (wrap64 (t114 * 65536)))) + (wrap64 (t117 * 256)))) + bt120.1)) a1, bt120.2.1, bt120.2.2)))) = some (r1, r2, r3) := H
      have A10 := Aside0.mk A100
      clear A100
      replace H := Option.bind_eq_some_iff.mp H
      obtain ⟨⟨t120, t121, t122⟩, A110, H⟩ := H
      replace H : (if a1 = 0 then (none) else (some (Int.tmod (wrap64 ((wrap64 ((wrap64 ((wrap64 (t111 * 16777216)) + (wrap64 (t114 * 65536)))) + (wrap64 (t117 * 256)))) + t120)) a1, t121, t122))) = some (r1, r2, r3) := H
      have A11 := Aside0.mk A110
      clear A110
      by_cases c12 : a1 = 0
      · rw [if_pos c12] at H
        exact absurd H (by simp)
      · rw [if_neg c12] at H
        have c12b0 : (a1 == 0) = false := beq_eq_false_iff_ne.mpr c12
        have c12b1 : (a1 != 0) = true := bne_iff_ne.mpr c12
        simp only [Option.some.injEq, Prod.mk.injEq] at H
        obtain ⟨rfl, rfl, rfl⟩ := H
        go_enter Try.func22, Try.ntmps22
        go_wp2_with (first | ((with_reducible refine gate_callee (f := 36) rfl ?_); refine goesL_ (some 18) rfl rfl Try.func36 (by kernel_rfl) rfl #[.pointer (some ⟨g, 0, none⟩)] rfl (by (try simp only [List.map_toArray, List.map_cons, List.map_nil]); first | done | rfl | (simp only [List.length_drop, List.length_take]; rfl)) ?_; (with_reducible refine (spec_l1Byte.calls g s0_0 s0_1 s0_2 t111 t112 t113 w0 _ ?side1 ?side2 A8.out).mono ?_); (case side1 => repeat (first | (with_reducible first | exact HI0.out | apply IsS80.alloc | apply IsS80.drewN | apply IsS80.drew | apply IsS80.set_1 | apply IsS80.set_2) | exact HI0.out)); (case side2 => repeat (first | (with_reducible first | exact HB.out | apply below_alloc | apply pw_below_drewN | apply below_drew1 | refine below_set ?_ (IsS80.ge HI0.out)) | exact HB.out)); rintro e w13 ⟨rfl, hi, hb, hk⟩; refine ⟨_, rfl, ?_⟩; have n0_ := Aside0.mk (KeepBut.trans (by repeat (first | (with_reducible first | exact HK.out | apply KeepBut.set_ | apply keep_drewN | apply keep_drew | apply keep_alloc) | exact HK.out)) hk (.inl rfl)); have n1_ := Aside0.mk (hb); have n2_ := Aside0.mk (hi); clear HK; clear HB; clear HI0; have HK := n0_; have HB := n1_; have HI0 := n2_; clear n0_ n1_ n2_; (try clear hb); (try clear hb2); (try clear hk); (try clear hi)) | ((with_reducible refine gate_callee (f := 36) rfl ?_); refine goesL_ (some 20) rfl rfl Try.func36 (by kernel_rfl) rfl #[.pointer (some ⟨g, 0, none⟩)] rfl (by (try simp only [List.map_toArray, List.map_cons, List.map_nil]); first | done | rfl | (simp only [List.length_drop, List.length_take]; rfl)) ?_; (with_reducible refine (spec_l1Byte.calls g s0_0 t112 t113 t114 t115 t116 w0 _ ?side1 ?side2 A9.out).mono ?_); (case side1 => repeat (first | (with_reducible first | exact HI0.out | apply IsS80.alloc | apply IsS80.drewN | apply IsS80.drew | apply IsS80.set_1 | apply IsS80.set_2) | exact HI0.out)); (case side2 => repeat (first | (with_reducible first | exact HB.out | apply below_alloc | apply pw_below_drewN | apply below_drew1 | refine below_set ?_ (IsS80.ge HI0.out)) | exact HB.out)); rintro e w14 ⟨rfl, hi, hb, hk⟩; refine ⟨_, rfl, ?_⟩; have n0_ := Aside0.mk (KeepBut.trans (by repeat (first | (with_reducible first | exact HK.out | apply KeepBut.set_ | apply keep_drewN | apply keep_drew | apply keep_alloc) | exact HK.out)) hk (.inl rfl)); have n1_ := Aside0.mk (hb); have n2_ := Aside0.mk (hi); clear HK; clear HB; clear HI0; have HK := n0_; have HB := n1_; have HI0 := n2_; clear n0_ n1_ n2_; (try clear hb); (try clear hb2); (try clear hk); (try clear hi)) | ((with_reducible refine gate_callee (f := 36) rfl ?_); refine goesL_ (some 22) rfl rfl Try.func36 (by kernel_rfl) rfl #[.pointer (some ⟨g, 0, none⟩)] rfl (by (try simp only [List.map_toArray, List.map_cons, List.map_nil]); first | done | rfl | (simp only [List.length_drop, List.length_take]; rfl)) ?_; (with_reducible refine (spec_l1Byte.calls g s0_0 t115 t116 t117 t118 t119 w0 _ ?side1 ?side2 A10.out).mono ?_); (case side1 => repeat (first | (with_reducible first | exact HI0.out | apply IsS80.alloc | apply IsS80.drewN | apply IsS80.drew | apply IsS80.set_1 | apply IsS80.set_2) | exact HI0.out)); (case side2 => repeat (first | (with_reducible first | exact HB.out | apply below_alloc | apply pw_below_drewN | apply below_drew1 | refine below_set ?_ (IsS80.ge HI0.out)) | exact HB.out)); rintro e w15 ⟨rfl, hi, hb, hk⟩; refine ⟨_, rfl, ?_⟩; have n0_ := Aside0.mk (KeepBut.trans (by repeat (first | (with_reducible first | exact HK.out | apply KeepBut.set_ | apply keep_drewN | apply keep_drew | apply keep_alloc) | exact HK.out)) hk (.inl rfl)); have n1_ := Aside0.mk (hb); have n2_ := Aside0.mk (hi); clear HK; clear HB; clear HI0; have HK := n0_; have HB := n1_; have HI0 := n2_; clear n0_ n1_ n2_; (try clear hb); (try clear hb2); (try clear hk); (try clear hi)) | ((with_reducible refine gate_callee (f := 36) rfl ?_); refine goesL_ (some 24) rfl rfl Try.func36 (by kernel_rfl) rfl #[.pointer (some ⟨g, 0, none⟩)] rfl (by (try simp only [List.map_toArray, List.map_cons, List.map_nil]); first | done | rfl | (simp only [List.length_drop, List.length_take]; rfl)) ?_; (with_reducible refine (spec_l1Byte.calls g s0_0 t118 t119 t120 t121 t122 w0 _ ?side1 ?side2 A11.out).mono ?_); (case side1 => repeat (first | (with_reducible first | exact HI0.out | apply IsS80.alloc | apply IsS80.drewN | apply IsS80.drew | apply IsS80.set_1 | apply IsS80.set_2) | exact HI0.out)); (case side2 => repeat (first | (with_reducible first | exact HB.out | apply below_alloc | apply pw_below_drewN | apply below_drew1 | refine below_set ?_ (IsS80.ge HI0.out)) | exact HB.out)); rintro e w16 ⟨rfl, hi, hb, hk⟩; refine ⟨_, rfl, ?_⟩; have n0_ := Aside0.mk (KeepBut.trans (by repeat (first | (with_reducible first | exact HK.out | apply KeepBut.set_ | apply keep_drewN | apply keep_drew | apply keep_alloc) | exact HK.out)) hk (.inl rfl)); have n1_ := Aside0.mk (hb); have n2_ := Aside0.mk (hi); clear HK; clear HB; clear HI0; have HK := n0_; have HB := n1_; have HI0 := n2_; clear n0_ n1_ n2_; (try clear hb); (try clear hb2); (try clear hk); (try clear hi)))
        go_ret
        exact ⟨by first | rfl | (simp [errW_none, errW_some] <;> rfl) | (simp [*, errW_none, errW_some] <;> rfl), by repeat (first | (with_reducible first | exact HI0.out | apply IsS80.alloc | apply IsS80.drewN | apply IsS80.drew | apply IsS80.set_1 | apply IsS80.set_2) | exact HI0.out), by repeat (first | (with_reducible first | exact HB.out | apply below_alloc | apply pw_below_drewN | apply below_drew1 | refine below_set ?_ (IsS80.ge HI0.out)) | exact HB.out), by repeat (first | (with_reducible first | exact HK.out | apply KeepBut.set_ | apply keep_drewN | apply keep_drew | apply keep_alloc) | exact HK.out)⟩

attribute [local go_sem] fld_
/-! ### spec_l2Left: function 72 -/
def spec_l2Left.f (a0 : Int) (a1 : Int) : Option (Int) := if a1 = 0 then (none) else (some (Int.tmod (wrap64 ((Int.tmod a0 a1) + a1)) a1))
set_option maxHeartbeats 8000000 in
set_option maxRecDepth 100000 in
theorem spec_l2Left.calls (a0 : Int) (a1 : Int) (r : Int) (w : World) (h : spec_l2Left.f a0 a1 = some r) :
    Calls Try.prog 72 #[.int .i64 a0, .int .i64 a1] w fun e w' => e = .returned (.int .i64 r) ∧ Drawn0 w w' := by
  have H : (if a1 = 0 then (none) else (some (Int.tmod (wrap64 ((Int.tmod a0 a1) + a1)) a1))) = some r := h
  clear h
  by_cases c3 : a1 = 0
  · rw [if_pos c3] at H
    exact absurd H (by simp)
  · rw [if_neg c3] at H
    have c3b0 : (a1 == 0) = false := beq_eq_false_iff_ne.mpr c3
    have c3b1 : (a1 != 0) = true := bne_iff_ne.mpr c3
    obtain rfl := Option.some.inj H
    go_enter Try.func72, Try.ntmps72
    go_wp2
    go_ret
    exact ⟨by first | rfl | (simp; done) | (simp [*]; done), by repeat (first | exact Drawn0.refl _ | apply Drawn0.step)⟩

attribute [local go_sem] fld_
/-! ### spec_l2Inv: function 68 -/
def spec_l2Inv.l0 : Nat → Int → Int → Int → Int → Int → Option (Int)
  | 0, _, _, _, _, _ => none
  | k + 1, x1, x5, x6, x7, x8 => if x6 > 0 then (if x6 = 0 then (none) else (spec_l2Inv.l0 k x1 x6 (Int.tmod x5 x6) x8 (wrap64 (x7 - (wrap64 ((wrap64 (Int.tdiv x5 x6)) * x8)))))) else (if x5 = 1 then ((spec_l2Left.f x7 x1).bind fun t124 => (some t124)) else (some 0))
def spec_l2Inv.f (k : Nat) (a0 : Int) (a1 : Int) : Option (Int) := (spec_l2Left.f a0 a1).bind fun t123 => (spec_l2Inv.l0 k a1 a1 t123 0 1)
theorem spec_l2Inv.mono_l : ∀ k, (∀ y0 y1 y2 y3 y4, LeO (spec_l2Inv.l0 k y0 y1 y2 y3 y4) (spec_l2Inv.l0 (k + 1) y0 y1 y2 y3 y4))
  | 0 => fun _ _ _ _ _ r h => by simp [spec_l2Inv.l0] at h
  | k + 1 => by
    have ih0 := spec_l2Inv.mono_l k
    · intro y0 y1 y2 y3 y4
      unfold spec_l2Inv.l0
      repeat' first
      | (with_reducible exact ih0 _ _ _ _ _)
      | (with_reducible exact LeO.refl _)
      | (with_reducible exact LeO.none _)
      | (with_reducible refine LeO.ite ?_ ?_)
      | (with_reducible refine LeO.bind ?_ (fun _ => ?_))
      | exact ih0 _ _ _ _ _
      | exact LeO.none _
      | refine LeO.ite ?_ ?_
      | refine LeO.bind ?_ (fun _ => ?_)
theorem spec_l2Inv.mono : ∀ a0 a1 k, LeO (spec_l2Inv.f k a0 a1) (spec_l2Inv.f (k + 1) a0 a1) := by
  intro a0 a1 k
  have ih0 := spec_l2Inv.mono_l k
  unfold spec_l2Inv.f
  repeat' first
      | (with_reducible exact ih0 _ _ _ _ _)
      | (with_reducible exact LeO.refl _)
      | (with_reducible exact LeO.none _)
      | (with_reducible refine LeO.ite ?_ ?_)
      | (with_reducible refine LeO.bind ?_ (fun _ => ?_))
      | exact ih0 _ _ _ _ _
      | exact LeO.none _
      | refine LeO.ite ?_ ?_
      | refine LeO.bind ?_ (fun _ => ?_)
set_option maxHeartbeats 8000000 in
set_option maxRecDepth 100000 in
theorem spec_l2Inv.calls (k : Nat) (a0 : Int) (a1 : Int) (r : Int) (w : World) (h : spec_l2Inv.f k a0 a1 = some r) :
    Calls Try.prog 68 #[.int .i64 a0, .int .i64 a1] w fun e w' => e = .returned (.int .i64 r) ∧ Drawn0 w w' := by
  have H : ((spec_l2Left.f a0 a1).bind fun t123 => (spec_l2Inv.l0 k a1 a1 t123 0 1)) = some r := h
  clear h
  replace H := Option.bind_eq_some_iff.mp H
  obtain ⟨t123, A30, H⟩ := H
  replace H : (spec_l2Inv.l0 k a1 a1 t123 0 1) = some r := H
  have A3 := Aside0.mk A30
  clear A30
  have H' := Aside0.mk H
  clear H
  go_enter Try.func68, Try.ntmps68
  go_wp2_with (first | (go_at_call 72; (with_reducible refine (spec_l2Left.calls a0 a1 t123 _ A3.out).mono ?_); rintro e w' ⟨rfl, ⟨nd, rfl⟩⟩; (try first | exact ⟨rfl, _, World.drewN_drewN _ _ _⟩ | exact ⟨rfl, _, Eq.trans (World.drewN_drewN _ _ _) (congrArg (World.drewN _) (Nat.add_assoc _ _ _))⟩)))
  repeat (go_quiet (first | (go_at_call 72; (with_reducible refine (spec_l2Left.calls a0 a1 t123 _ A3.out).mono ?_); rintro e w' ⟨rfl, ⟨nd, rfl⟩⟩; (try first | exact ⟨rfl, _, World.drewN_drewN _ _ _⟩ | exact ⟨rfl, _, Eq.trans (World.drewN_drewN _ _ _) (congrArg (World.drewN _) (Nat.add_assoc _ _ _))⟩))); try go_wp2_with (first | (go_at_call 72; (with_reducible refine (spec_l2Left.calls a0 a1 t123 _ A3.out).mono ?_); rintro e w' ⟨rfl, ⟨nd, rfl⟩⟩; (try first | exact ⟨rfl, _, World.drewN_drewN _ _ _⟩ | exact ⟨rfl, _, Eq.trans (World.drewN_drewN _ _ _) (congrArg (World.drewN _) (Nat.add_assoc _ _ _))⟩))))
  go_loopg [5, 6, 7, 8] k (fun kq v5 v6 v7 v8 w' => ∃ (x5_1 : Int) (x6_1 : Int) (x7_1 : Int) (x8_1 : Int), v5 = .int .i64 x5_1 ∧ v6 = .int .i64 x6_1 ∧ v7 = .int .i64 x7_1 ∧ v8 = .int .i64 x8_1 ∧ Aside0 (spec_l2Inv.l0 kq a1 x5_1 x6_1 x7_1 x8_1 = some r) ∧ Aside0 (kq ≤ k) ∧ Drawn0 w w')
  case atStart => exact ⟨(a1), (t123), (0), (1), (by first | rfl | (simp; done) | (simp [*]; done)), (by first | rfl | (simp; done) | (simp [*]; done)), (by first | rfl | (simp; done) | (simp [*]; done)), (by first | rfl | (simp; done) | (simp [*]; done)), H', ⟨Nat.le_refl _⟩, by repeat (first | exact Drawn0.refl _ | apply Drawn0.step)⟩
  case round =>
    clear H'
    try clear p2
    obtain ⟨x5_1, x6_1, x7_1, x8_1, rfl, rfl, rfl, rfl, HA, HK1, ⟨m1, rfl⟩⟩ := hrel
    cases gk with
    | zero => exact absurd HA.out (by simp [spec_l2Inv.l0])
    | succ k1 =>
      have H := HA.out
      clear HA
      simp only [spec_l2Inv.l0] at H
      by_cases c4 : x6_1 > 0
      · rw [if_pos c4] at H
        have c4b0 : decide (0 < x6_1) = true := decide_eq_true c4
        clear c4
        by_cases c5 : x6_1 = 0
        · rw [if_pos c5] at H
          exact absurd H (by simp)
        · rw [if_neg c5] at H
          have c5b0 : (x6_1 == 0) = false := beq_eq_false_iff_ne.mpr c5
          have c5b1 : (x6_1 != 0) = true := bne_iff_ne.mpr c5
          have H' := Aside0.mk H
          clear H
          go_wp2
          repeat (go_quiet (fail); try go_wp2)
          go_roundg k1
          case measure => have := HK1.out; omega
          case rel => exact ⟨(x6_1), (Int.tmod x5_1 x6_1), (x8_1), (wrap64 (x7_1 - (wrap64 ((wrap64 (Int.tdiv x5_1 x6_1)) * x8_1)))), (by first | rfl | (simp; done) | (simp [*]; done)), (by first | rfl | (simp; done) | (simp [*]; done)), (by first | rfl | (simp; done) | (simp [*]; done)), (by first | rfl | (simp; done) | (simp [*]; done)), H', ⟨by have := HK1.out; omega⟩, by repeat (first | exact Drawn0.refl _ | apply Drawn0.step)⟩
      · rw [if_neg c4] at H
        have c4b0 : decide (0 < x6_1) = false := decide_eq_false c4
        clear c4
        by_cases c6 : x5_1 = 1
        · rw [if_pos c6] at H
          have c6b0 : (x5_1 == 1) = true := beq_iff_eq.mpr c6
          have c6b1 : (x5_1 != 1) = false := bne_eq_false_iff_eq.mpr c6
          clear c6
          replace H := Option.bind_eq_some_iff.mp H
          obtain ⟨t124, A70, H⟩ := H
          replace H : (some t124) = some r := H
          have A7 := Aside0.mk A70
          clear A70
          obtain rfl := Option.some.inj H
          go_wp2_with (first | (go_at_call 72; (with_reducible refine (spec_l2Left.calls x7_1 a1 t124 _ A7.out).mono ?_); rintro e w' ⟨rfl, ⟨nd, rfl⟩⟩; (try first | exact ⟨rfl, _, World.drewN_drewN _ _ _⟩ | exact ⟨rfl, _, Eq.trans (World.drewN_drewN _ _ _) (congrArg (World.drewN _) (Nat.add_assoc _ _ _))⟩)))
          repeat (go_quiet (first | (go_at_call 72; (with_reducible refine (spec_l2Left.calls x7_1 a1 t124 _ A7.out).mono ?_); rintro e w' ⟨rfl, ⟨nd, rfl⟩⟩; (try first | exact ⟨rfl, _, World.drewN_drewN _ _ _⟩ | exact ⟨rfl, _, Eq.trans (World.drewN_drewN _ _ _) (congrArg (World.drewN _) (Nat.add_assoc _ _ _))⟩))); try go_wp2_with (first | (go_at_call 72; (with_reducible refine (spec_l2Left.calls x7_1 a1 t124 _ A7.out).mono ?_); rintro e w' ⟨rfl, ⟨nd, rfl⟩⟩; (try first | exact ⟨rfl, _, World.drewN_drewN _ _ _⟩ | exact ⟨rfl, _, Eq.trans (World.drewN_drewN _ _ _) (congrArg (World.drewN _) (Nat.add_assoc _ _ _))⟩))))
          go_ret
          exact ⟨by first | rfl | (simp; done) | (simp [*]; done), by repeat (first | exact Drawn0.refl _ | apply Drawn0.step)⟩
        · rw [if_neg c6] at H
          have c6b0 : (x5_1 == 1) = false := beq_eq_false_iff_ne.mpr c6
          have c6b1 : (x5_1 != 1) = true := bne_iff_ne.mpr c6
          obtain rfl := Option.some.inj H
          go_wp2
          repeat (go_quiet (fail); try go_wp2)
          go_ret
          exact ⟨by first | rfl | (simp; done) | (simp [*]; done), by repeat (first | exact Drawn0.refl _ | apply Drawn0.step)⟩

attribute [local go_sem] fld_
/-! ### spec_l4Add: function 47 -/
def spec_l4Add.f (k : Nat) (a0_0 : Int) (a0_1 : Int) (a0_2 : Int) (a0_3 : Int) (a0_4 : Int) (a1_0 : Int) (a1_1 : Int) (a2_0 : Int) (a2_1 : Int) : Option (Int × Int) := if a0_0 = 0 then (none) else ((spec_l2Inv.f k (wrap64 (1 + (Int.tmod (wrap64 ((Int.tmod (wrap64 (a0_1 * (Int.tmod (wrap64 (a1_0 * a2_0)) a0_0))) a0_0) * (Int.tmod (wrap64 (a1_1 * a2_1)) a0_0))) a0_0))) a0_0).bind fun t129 => ((spec_l2Inv.f k (wrap64 (1 - (Int.tmod (wrap64 ((Int.tmod (wrap64 (a0_1 * (Int.tmod (wrap64 (a1_0 * a2_0)) a0_0))) a0_0) * (Int.tmod (wrap64 (a1_1 * a2_1)) a0_0))) a0_0))) a0_0).bind fun t130 => (some (Int.tmod (wrap64 ((Int.tmod (wrap64 ((wrap64 (a1_0 * a2_1)) + (wrap64 (a1_1 * a2_0)))) a0_0) * t129)) a0_0, Int.tmod (wrap64 ((Int.tmod (wrap64 ((Int.tmod (wrap64 (a1_1 * a2_1)) a0_0) + (Int.tmod (wrap64 (a1_0 * a2_0)) a0_0))) a0_0) * t130)) a0_0))))
theorem spec_l4Add.mono : ∀ a0 a1 a2 a3 a4 a5 a6 a7 a8 k, LeO (spec_l4Add.f k a0 a1 a2 a3 a4 a5 a6 a7 a8) (spec_l4Add.f (k + 1) a0 a1 a2 a3 a4 a5 a6 a7 a8) := by
 intro a0 a1 a2 a3 a4 a5 a6 a7 a8 k
 unfold spec_l4Add.f
 repeat' first
   | (with_reducible exact spec_l2Inv.mono _ _ _)
   | (with_reducible exact LeO.refl _)
   | (with_reducible exact LeO.none _)
   | (with_reducible refine LeO.ite ?_ ?_)
   | (with_reducible refine LeO.bind ?_ (fun _ => ?_))
   | exact spec_l2Inv.mono _ _ _
   | exact LeO.none _
   | refine LeO.ite ?_ ?_
   | refine LeO.bind ?_ (fun _ => ?_)
def spec_l4Add.T1 : Bool × List (List Nat × List Nat) := (true, [([], []), ([0], [0]), ([], []), ([2], [2]), ([1, 3], [1, 3]), ([], []), ([5], [5]), ([4, 6], [4, 6]), ([], []), ([8], [8]), ([], []), ([10], [10]), ([9, 11], [9, 11]), ([], []), ([13], [13]), ([12, 14], [12, 14]), ([7, 0, 1, 2, 3, 4, 5, 6, 7], [7]), ([15, 16, 0, 1, 2, 3, 4, 5, 6, 7, 8, 9, 10, 11, 12, 13, 14, 15, 16], [15])])
def spec_l4Add.B1 : List Nat := [0, 1, 0, 4, 15, 0, 32, 127, 0, 256, 0, 1024, 3840, 0, 8192, 32512, 255, 131071]
theorem spec_l4Add.tab1 : rtab .any (opsOf Try.f47 1) = spec_l4Add.T1 := by kernel_rfl
theorem spec_l4Add.bits1 : waitsOk spec_l4Add.T1.2 spec_l4Add.B1 = true := by kernel_rfl
def spec_l4Add.T2 : Bool × List (List Nat × List Nat) := (true, [([], []), ([0], [0]), ([], []), ([1, 2], [1, 2]), ([], []), ([4], [4]), ([3, 5], [3, 5]), ([], []), ([6, 7], [6, 7]), ([], []), ([9], [9]), ([8, 10], [8, 10]), ([11, 0, 1, 2, 3, 4, 5, 6, 7, 8, 9, 10, 11], [11])])
def spec_l4Add.B2 : List Nat := [0, 1, 0, 7, 0, 16, 63, 0, 255, 0, 512, 2047, 4095]
theorem spec_l4Add.tab2 : rtab .any (opsOf Try.f47 2) = spec_l4Add.T2 := by kernel_rfl
theorem spec_l4Add.bits2 : waitsOk spec_l4Add.T2.2 spec_l4Add.B2 = true := by kernel_rfl
def spec_l4Add.T4 : Bool × List (List Nat × List Nat) := (true, [([], []), ([], []), ([1], [1]), ([], []), ([3], [3]), ([2, 4], [2, 4]), ([0, 5], [0, 5]), ([], []), ([7], [7]), ([6, 8], [6, 8]), ([], []), ([], []), ([10, 11], [10, 11]), ([], []), ([13], [13]), ([12, 14], [12, 14]), ([], []), ([16], [16]), ([], []), ([18], [18]), ([17, 19, 5], [17, 19]), ([15, 20], [15, 20]), ([], []), ([22], [22]), ([21, 23], [21, 23]), ([9, 24], [9, 24]), ([25, 20, 0, 1, 2, 3, 4, 5, 6, 7, 8, 9, 10, 11, 12, 13, 14, 15, 16, 17, 18, 19, 20, 21, 22, 23, 24, 25], [25])])
def spec_l4Add.B4 : List Nat := [0, 0, 2, 0, 8, 30, 63, 0, 128, 511, 0, 0, 3072, 0, 8192, 31744, 0, 65536, 0, 262144, 983102, 2096190, 0, 4194304, 16776254, 33554431, 67108863]
theorem spec_l4Add.tab4 : rtab .any (opsOf Try.f47 4) = spec_l4Add.T4 := by kernel_rfl
theorem spec_l4Add.bits4 : waitsOk spec_l4Add.T4.2 spec_l4Add.B4 = true := by kernel_rfl
set_option maxHeartbeats 8000000 in
set_option maxRecDepth 100000 in
theorem spec_l4Add.calls (k : Nat) (a0_0 : Int) (a0_1 : Int) (a0_2 : Int) (a0_3 : Int) (a0_4 : Int) (a1_0 : Int) (a1_1 : Int) (a2_0 : Int) (a2_1 : Int) (r1 : Int) (r2 : Int) (w : World) (h : spec_l4Add.f k a0_0 a0_1 a0_2 a0_3 a0_4 a1_0 a1_1 a2_0 a2_1 = some (r1, r2)) :
  Calls Try.prog 47 #[.agg #[.int .i64 a0_0, .int .i64 a0_1, .int .i64 a0_2, .int .i64 a0_3, .int .i64 a0_4], .agg #[.int .i64 a1_0, .int .i64 a1_1], .agg #[.int .i64 a2_0, .int .i64 a2_1]] w fun e w' => e = .returned (.agg #[.int .i64 r1, .int .i64 r2]) ∧ Below w.heap.size w w' := by
 have hu25 := Try.underlying25; have hu27 := Try.underlying27; have HB := Aside0.mk (Below.refl w.heap.size w)
 have H : (if a0_0 = 0 then (none) else ((spec_l2Inv.f k (wrap64 (1 + (Int.tmod (wrap64 ((Int.tmod (wrap64 (a0_1 * (Int.tmod (wrap64 (a1_0 * a2_0)) a0_0))) a0_0) * (Int.tmod (wrap64 (a1_1 * a2_1)) a0_0))) a0_0))) a0_0).bind fun t129 => ((spec_l2Inv.f k (wrap64 (1 - (Int.tmod (wrap64 ((Int.tmod (wrap64 (a0_1 * (Int.tmod (wrap64 (a1_0 * a2_0)) a0_0))) a0_0) * (Int.tmod (wrap64 (a1_1 * a2_1)) a0_0))) a0_0))) a0_0).bind fun t130 => (some (Int.tmod (wrap64 ((Int.tmod (wrap64 ((wrap64 (a1_0 * a2_1)) + (wrap64 (a1_1 * a2_0)))) a0_0) * t129)) a0_0, Int.tmod (wrap64 ((Int.tmod (wrap64 ((Int.tmod (wrap64 (a1_1 * a2_1)) a0_0) + (Int.tmod (wrap64 (a1_0 * a2_0)) a0_0))) a0_0) * t130)) a0_0))))) = some (r1, r2) := h
 clear h
 by_cases c4 : a0_0 = 0
 · rw [if_pos c4] at H; exact absurd H (by simp)
 ·
  rw [if_neg c4] at H
  have c4b0 : (a0_0 == 0) = false := beq_eq_false_iff_ne.mpr c4
  have c4b1 : (a0_0 != 0) = true := bne_iff_ne.mpr c4
  obtain ⟨t129, A50, H⟩ := pb_ H; have A5 := Aside0.mk A50; clear A50; obtain ⟨t130, A60, H⟩ := pb_ H
  have A6 := Aside0.mk A60; clear A60
  simp only [Option.some.injEq, Prod.mk.injEq] at H
  obtain ⟨rfl, rfl⟩ := H
  go_enter Try.func47, Try.ntmps47
  try go_wp2_with (first | ((with_reducible refine gate_dst (N := 3) rfl ?_); refine box_event ?hg (N := 3) ?hd (cs := #[.int .i64 a0_0, .int .i64 a0_1, .int .i64 a0_2, .int .i64 a0_3, .int .i64 a0_4]) (t := 25) ?hr ?_; (case hd => rfl); (case hg => rfl); (case hr => first | (go_simp; done) | (go_simp; rfl)); intro gb125 hg w7 hbox hb; have BK125 := Aside0.mk hbox; have GW125 := ge_ HB hg; have GE125 := ge_ HB hg; replace HB := bs_ HB hb; clear hb hbox hg) | ((with_reducible refine gate_dst (N := 4) rfl ?_); refine box_event ?hg (N := 4) ?hd (cs := #[.int .i64 a1_0, .int .i64 a1_1]) (t := 27) ?hr ?_; (case hd => rfl); (case hg => rfl); (case hr => first | (go_simp; done) | (go_simp; rfl)); intro gb126 hg w8 hbox hb; have BK126 := Aside0.mk hbox; have GW126 := ge_ HB hg; have GE126 := ge_ HB hg; have NB125_126 := nl_ BK125 hg; have NB126_125 := nr_ BK125 hg; replace BK125 := bb_ BK125 hb; replace HB := bs_ HB hb; clear hb hbox hg) | ((with_reducible refine gate_dst (N := 5) rfl ?_); refine box_event ?hg (N := 5) ?hd (cs := #[.int .i64 a2_0, .int .i64 a2_1]) (t := 27) ?hr ?_; (case hd => rfl); (case hg => rfl); (case hr => first | (go_simp; done) | (go_simp; rfl)); intro gb127 hg w9 hbox hb; have BK127 := Aside0.mk hbox; have GW127 := ge_ HB hg; have GE127 := ge_ HB hg; have NB125_127 := nl_ BK125 hg; have NB127_125 := nr_ BK125 hg; have NB126_127 := nl_ BK126 hg; have NB127_126 := nr_ BK126 hg; replace BK125 := bb_ BK125 hb; replace BK126 := bb_ BK126 hb; replace HB := bs_ HB hb; clear hb hbox hg) | ((with_reducible refine gate_dst (N := 6) rfl ?_); refine box_event ?hg (N := 6) ?hd (cs := #[.int .i64 0, .int .i64 0]) (t := 27) ?hr ?_; (case hd => rfl); (case hg => rfl); (case hr => first | (go_simp; done) | (go_simp; rfl)); intro gb128 hg w10 hbox hb; have BK128 := Aside0.mk hbox; have GW128 := ge_ HB hg; have GE128 := ge_ HB hg; have NB125_128 := nl_ BK125 hg; have NB128_125 := nr_ BK125 hg; have NB126_128 := nl_ BK126 hg; have NB128_126 := nr_ BK126 hg; have NB127_128 := nl_ BK127 hg; have NB128_127 := nr_ BK127 hg; replace BK125 := bb_ BK125 hb; replace BK126 := bb_ BK126 hb; replace BK127 := bb_ BK127 hb; replace HB := bs_ HB hb; clear hb hbox hg))
  replace BK125 := Aside0.mk (blk_drew BK125.out); replace BK126 := Aside0.mk (blk_drew BK126.out); replace BK127 := Aside0.mk (blk_drew BK127.out); replace BK128 := Aside0.mk (blk_drew BK128.out); replace HB := Aside0.mk (below_drew1 HB.out); refine start_ (n := 18) (S := fun w' => w'.cell? ⟨gb126, 0, none⟩ = some (.int .i64 a1_0) ∧ w'.cell? ⟨gb126, 1, none⟩ = some (.int .i64 a1_1) ∧ w'.cell? ⟨gb127, 0, none⟩ = some (.int .i64 a2_0) ∧ w'.cell? ⟨gb127, 1, none⟩ = some (.int .i64 a2_1) ∧ w'.cell? ⟨gb125, 0, none⟩ = some (.int .i64 a0_0) ∧ w'.cell? ⟨gb125, 1, none⟩ = some (.int .i64 a0_1) ∧ w'.cell? ⟨gb125, 2, none⟩ = some (.int .i64 a0_2) ∧ w'.cell? ⟨gb125, 3, none⟩ = some (.int .i64 a0_3) ∧ w'.cell? ⟨gb125, 4, none⟩ = some (.int .i64 a0_4)) (ds := []) (bl_ 18 0) (by kernel_rfl) rfl rfl ⟨bc_ BK126 0, bc_ BK126 1, bc_ BK127 0, bc_ BK127 1, bc_ BK125 0, bc_ BK125 1, bc_ BK125 2, bc_ BK125 3, bc_ BK125 4⟩ (fun hHeld => ?_); refine with_tabW spec_l4Add.tab1 spec_l4Add.bits1 (fun HT_ HW_ => ?_)
  generalize w10.drew = w11 at BK125 BK126 BK127 BK128 HB hHeld ⊢
  refine pu_ 0 11 (bl_ 18 1) rfl rfl HT_ ?_; refine pu_ 2 13 (bl_ 18 5) rfl rfl HT_ ?_; refine pu_ 5 16 (bl_ 18 37) rfl rfl HT_ ?_; refine pu_ 8 19 (bl_ 18 293) rfl rfl HT_ ?_; refine pu_ 10 21 (bl_ 18 1317) rfl rfl HT_ ?_; refine pu_ 13 24 (bl_ 18 9509) rfl rfl HT_ ?_; refine tk_ 1 12 (bl_ 18 9511) rfl rfl HT_ HW_ hHeld (by rintro w' ⟨s0, s1, s2, s3, s4, s5, s6, s7, s8⟩; go_simp; with_reducible rfl) ?_; refine tk_ 3 14 (bl_ 18 9519) rfl rfl HT_ HW_ hHeld (by rintro w' ⟨s0, s1, s2, s3, s4, s5, s6, s7, s8⟩; go_simp; with_reducible rfl) ?_; refine pu_ 4 15 (bl_ 18 9535) rfl rfl HT_ ?_; refine tk_ 6 17 (bl_ 18 9599) rfl rfl HT_ HW_ hHeld (by rintro w' ⟨s0, s1, s2, s3, s4, s5, s6, s7, s8⟩; go_simp; with_reducible rfl) ?_; refine pu_ 7 18 (bl_ 18 9727) rfl rfl HT_ ?_; refine pu_ 16 7 (bl_ 18 75263) rfl rfl HT_ ?_; refine tk_ 9 20 (bl_ 18 75775) rfl rfl HT_ HW_ hHeld (by rintro w' ⟨s0, s1, s2, s3, s4, s5, s6, s7, s8⟩; go_simp; with_reducible rfl) ?_; refine tk_ 11 22 (bl_ 18 77823) rfl rfl HT_ HW_ hHeld (by rintro w' ⟨s0, s1, s2, s3, s4, s5, s6, s7, s8⟩; go_simp; with_reducible rfl) ?_; refine pu_ 12 23 (bl_ 18 81919) rfl rfl HT_ ?_; refine tk_ 14 25 (bl_ 18 98303) rfl rfl HT_ HW_ hHeld (by rintro w' ⟨s0, s1, s2, s3, s4, s5, s6, s7, s8⟩; go_simp; with_reducible rfl) ?_; refine pu_ 15 26 (bl_ 18 131071) rfl rfl HT_ ?_; refine pu_ 17 8 (bl_ 18 262143) rfl rfl HT_ ?_; refine done_ (done_of HT_.out (by kernel_rfl)) ?_
  try go_wp2
  replace BK125 := Aside0.mk (blk_drew BK125.out); replace BK126 := Aside0.mk (blk_drew BK126.out); replace BK127 := Aside0.mk (blk_drew BK127.out); replace BK128 := Aside0.mk (blk_drew BK128.out); replace HB := Aside0.mk (below_drew1 HB.out); refine start_ (n := 13) (S := fun w' => w'.cell? ⟨gb125, 0, none⟩ = some (.int .i64 a0_0) ∧ w'.cell? ⟨gb125, 1, none⟩ = some (.int .i64 a0_1) ∧ w'.cell? ⟨gb125, 2, none⟩ = some (.int .i64 a0_2) ∧ w'.cell? ⟨gb125, 3, none⟩ = some (.int .i64 a0_3) ∧ w'.cell? ⟨gb125, 4, none⟩ = some (.int .i64 a0_4)) (ds := []) (bl_ 13 0) (by kernel_rfl) rfl rfl ⟨bc_ BK125 0, bc_ BK125 1, bc_ BK125 2, bc_ BK125 3, bc_ BK125 4⟩ (fun hHeld => ?_); refine with_tabW spec_l4Add.tab2 spec_l4Add.bits2 (fun HT_ HW_ => ?_)
  generalize w11.drew = w12 at BK125 BK126 BK127 BK128 HB hHeld ⊢
  refine pu_ 0 27 (bl_ 13 1) rfl rfl HT_ ?_; refine pu_ 2 29 (bl_ 13 5) rfl rfl HT_ ?_; refine pu_ 4 31 (bl_ 13 21) rfl rfl HT_ ?_; refine pu_ 7 34 (bl_ 13 149) rfl rfl HT_ ?_; refine pu_ 9 36 (bl_ 13 661) rfl rfl HT_ ?_; refine tk_ 1 28 (bl_ 13 663) rfl rfl HT_ HW_ hHeld (by rintro w' ⟨s0, s1, s2, s3, s4⟩; go_simp; with_reducible rfl) ?_; refine pu_ 3 30 (bl_ 13 671) rfl rfl HT_ ?_; refine tk_ 5 32 (bl_ 13 703) rfl rfl HT_ HW_ hHeld (by rintro w' ⟨s0, s1, s2, s3, s4⟩; go_simp; with_reducible rfl) ?_; refine pu_ 6 33 (bl_ 13 767) rfl rfl HT_ ?_; refine pu_ 8 35 (bl_ 13 1023) rfl rfl HT_ ?_; refine tk_ 10 37 (bl_ 13 2047) rfl rfl HT_ HW_ hHeld (by rintro w' ⟨s0, s1, s2, s3, s4⟩; go_simp; with_reducible rfl) ?_; refine pu_ 11 38 (bl_ 13 4095) rfl rfl HT_ ?_; refine pu_ 12 9 (bl_ 13 8191) rfl rfl HT_ ?_; refine done_ (done_of HT_.out (by kernel_rfl)) ?_; obtain ⟨hnb13, hnc13⟩ := nn_ NB126_125; obtain ⟨hnb14, hnc14⟩ := nn_ NB126_127; obtain ⟨hnb15, hnc15⟩ := nn_ NB126_128
  obtain ⟨hcz16_0, hcz16_1, hfz16_0, hfz16_1⟩ := bx2_ BK126; obtain ⟨hnb17, hnc17⟩ := nn_ NB127_125; obtain ⟨hnb18, hnc18⟩ := nn_ NB127_128
  obtain ⟨hcz19_0, hcz19_1, hfz19_0, hfz19_1⟩ := bx2_ BK127; obtain ⟨hnb20, hnc20⟩ := nn_ NB125_128
  obtain ⟨hcz21_0, hcz21_1, hcz21_2, hcz21_3, hcz21_4, hfz21_0, hfz21_1, hfz21_2, hfz21_3, hfz21_4⟩ := bx5_ BK125
  try go_wp2
  replace BK125 := Aside0.mk (blk_drew BK125.out); replace BK126 := Aside0.mk (blk_drew BK126.out); replace BK127 := Aside0.mk (blk_drew BK127.out); replace BK128 := Aside0.mk (blk_drew BK128.out); replace HB := Aside0.mk (below_drew1 HB.out); refine start_ (n := 27) (S := fun w' => w'.cell? ⟨gb125, 0, none⟩ = some (.int .i64 a0_0) ∧ w'.cell? ⟨gb125, 1, none⟩ = some (.int .i64 a0_1) ∧ w'.cell? ⟨gb125, 2, none⟩ = some (.int .i64 a0_2) ∧ w'.cell? ⟨gb125, 3, none⟩ = some (.int .i64 a0_3) ∧ w'.cell? ⟨gb125, 4, none⟩ = some (.int .i64 a0_4)) (ds := []) (bl_ 27 0) (by kernel_rfl) rfl rfl ⟨bc_ BK125 0, bc_ BK125 1, bc_ BK125 2, bc_ BK125 3, bc_ BK125 4⟩ (fun hHeld => ?_); refine with_tabW spec_l4Add.tab4 spec_l4Add.bits4 (fun HT_ HW_ => ?_)
  generalize w12.drew = w22 at BK125 BK126 BK127 BK128 HB hHeld ⊢
  refine pu_ 0 53 (bl_ 27 1) rfl rfl HT_ ?_; refine pu_ 1 54 (bl_ 27 3) rfl rfl HT_ ?_; refine pu_ 2 55 (bl_ 27 7) rfl rfl HT_ ?_; refine pu_ 3 56 (bl_ 27 15) rfl rfl HT_ ?_; refine pu_ 7 60 (bl_ 27 143) rfl rfl HT_ ?_; refine pu_ 10 63 (bl_ 27 1167) rfl rfl HT_ ?_; refine pu_ 11 64 (bl_ 27 3215) rfl rfl HT_ ?_; refine pu_ 12 65 (bl_ 27 7311) rfl rfl HT_ ?_; refine pu_ 13 66 (bl_ 27 15503) rfl rfl HT_ ?_; refine pu_ 16 69 (bl_ 27 81039) rfl rfl HT_ ?_; refine pu_ 17 70 (bl_ 27 212111) rfl rfl HT_ ?_; refine pu_ 18 71 (bl_ 27 474255) rfl rfl HT_ ?_; refine pu_ 22 75 (bl_ 27 4668559) rfl rfl HT_ ?_; refine tk_ 4 57 (bl_ 27 4668575) rfl rfl HT_ HW_ hHeld (by rintro w' ⟨s0, s1, s2, s3, s4⟩; go_simp; with_reducible rfl) ?_; refine tk_ 8 61 (bl_ 27 4668831) rfl rfl HT_ HW_ hHeld (by rintro w' ⟨s0, s1, s2, s3, s4⟩; go_simp; with_reducible rfl) ?_; refine tk_ 14 67 (bl_ 27 4685215) rfl rfl HT_ HW_ hHeld (by rintro w' ⟨s0, s1, s2, s3, s4⟩; go_simp; with_reducible rfl) ?_; refine pu_ 15 68 (bl_ 27 4717983) rfl rfl HT_ ?_; refine tk_ 19 72 (bl_ 27 5242271) rfl rfl HT_ HW_ hHeld (by rintro w' ⟨s0, s1, s2, s3, s4⟩; go_simp; with_reducible rfl) ?_; refine tk_ 23 76 (bl_ 27 13630879) rfl rfl HT_ HW_ hHeld (by rintro w' ⟨s0, s1, s2, s3, s4⟩; go_simp; with_reducible rfl) ?_; refine one_ (i := 5) (N := some 58) (bl_ 27 13630911) rfl rfl (one_of HT_.out (by kernel_rfl)) (by decide) (fun K hK => ?_); refine gs_ Try.func68 #[.int .i64 (wrap64 (1 + (Int.tmod (wrap64 ((Int.tmod (wrap64 (a0_1 * (Int.tmod (wrap64 (a1_0 * a2_0)) a0_0))) a0_0) * (Int.tmod (wrap64 (a1_1 * a2_1)) a0_0))) a0_0))), .int .i64 a0_0] ?_
  with_reducible refine (spec_l2Inv.calls k (wrap64 (1 + (Int.tmod (wrap64 ((Int.tmod (wrap64 (a0_1 * (Int.tmod (wrap64 (a1_0 * a2_0)) a0_0))) a0_0) * (Int.tmod (wrap64 (a1_1 * a2_1)) a0_0))) a0_0))) a0_0 t129 _ A5.out).mono ?_
  rintro e w' ⟨rfl, ⟨nd, rfl⟩⟩; refine ⟨_, rfl, ?_⟩; refine hK.out _ _ ⟨bc_ BK125 0, bc_ BK125 1, bc_ BK125 2, bc_ BK125 3, bc_ BK125 4⟩ (fun hHeld => ?_); clear hK K
  apply norm_
  · show Act.put _ (some 58) _ = _; simp only [Act.put, sA_, sZ_, sS_, i64_w, i32_w]; rfl
  refine pu_ 6 59 (bl_ 27 13630975) rfl rfl HT_ ?_; refine pu_ 9 62 (bl_ 27 13631487) rfl rfl HT_ ?_; refine one_ (i := 20) (N := some 73) (bl_ 27 14680063) rfl rfl (one_of HT_.out (by kernel_rfl)) (by decide) (fun K hK => ?_); refine gs_ Try.func68 #[.int .i64 (wrap64 (1 - (Int.tmod (wrap64 ((Int.tmod (wrap64 (a0_1 * (Int.tmod (wrap64 (a1_0 * a2_0)) a0_0))) a0_0) * (Int.tmod (wrap64 (a1_1 * a2_1)) a0_0))) a0_0))), .int .i64 a0_0] ?_
  with_reducible refine (spec_l2Inv.calls k (wrap64 (1 - (Int.tmod (wrap64 ((Int.tmod (wrap64 (a0_1 * (Int.tmod (wrap64 (a1_0 * a2_0)) a0_0))) a0_0) * (Int.tmod (wrap64 (a1_1 * a2_1)) a0_0))) a0_0))) a0_0 t130 _ A6.out).mono ?_
  rintro e w' ⟨rfl, ⟨nd, rfl⟩⟩; refine ⟨_, rfl, ?_⟩; refine hK.out _ _ ⟨bc_ BK125 0, bc_ BK125 1, bc_ BK125 2, bc_ BK125 3, bc_ BK125 4⟩ (fun hHeld => ?_); clear hK K
  apply norm_
  · show Act.put _ (some 73) _ = _; simp only [Act.put, sA_, sZ_, sS_, i64_w, i32_w]; rfl
  refine pu_ 21 74 (bl_ 27 16777215) rfl rfl HT_ ?_; refine pu_ 24 77 (bl_ 27 33554431) rfl rfl HT_ ?_; refine pu_ 25 78 (bl_ 27 67108863) rfl rfl HT_ ?_; refine one_ (i := 26) (N := none) (bl_ 27 134217727) rfl rfl (one_of HT_.out (by kernel_rfl)) (by decide) (fun K hK => ?_)
  have hs23 : w22.cell? ⟨gb128, 0, none⟩ = some (.int .i64 0) := bc_ BK128 0
  have hfs23 := blk_frozen BK128.out 0; have hns23_0 := NB125_128.out; have hns23_1 := NB126_128.out; have hns23_2 := NB127_128.out; have hms23_0 := NB128_125.out; have hms23_1 := NB128_126.out; have hms23_2 := NB128_127.out
  have hs24 : w22.cell? ⟨gb128, 1, none⟩ = some (.int .i64 0) := bc_ BK128 1
  have hfs24 := blk_frozen BK128.out 1; have hns24_0 := NB125_128.out; have hns24_1 := NB126_128.out; have hns24_2 := NB127_128.out; have hms24_0 := NB128_125.out; have hms24_1 := NB128_126.out; have hms24_2 := NB128_127.out; refine skip_ (w1 := ?_) (by rfl) rfl ?_ ?_; rotate_left
  · go_simp; rfl
  refine hK.out _ _ ⟨((cell_far (p := ⟨gb128, _, none⟩) NB125_128.out _).trans (((cell_far (p := ⟨gb128, _, none⟩) NB125_128.out _).trans (hHeld.1)))), ((cell_far (p := ⟨gb128, _, none⟩) NB125_128.out _).trans (((cell_far (p := ⟨gb128, _, none⟩) NB125_128.out _).trans (hHeld.2.1)))), ((cell_far (p := ⟨gb128, _, none⟩) NB125_128.out _).trans (((cell_far (p := ⟨gb128, _, none⟩) NB125_128.out _).trans (hHeld.2.2.1)))), ((cell_far (p := ⟨gb128, _, none⟩) NB125_128.out _).trans (((cell_far (p := ⟨gb128, _, none⟩) NB125_128.out _).trans (hHeld.2.2.2.1)))), ((cell_far (p := ⟨gb128, _, none⟩) NB125_128.out _).trans (((cell_far (p := ⟨gb128, _, none⟩) NB125_128.out _).trans (hHeld.2.2.2.2))))⟩ (fun hHeld => ?_); clear hK K; refine done_ (done_of HT_.out (by kernel_rfl)) ?_
  try go_wp2
  refine bodyPost_ret (results_cell_row rfl _ _ gb128 27 #[.int .i64 (Int.tmod (wrap64 ((Int.tmod (wrap64 ((wrap64 (a1_0 * a2_1)) + (wrap64 (a1_1 * a2_0)))) a0_0) * t129)) a0_0), .int .i64 (Int.tmod (wrap64 ((Int.tmod (wrap64 ((Int.tmod (wrap64 (a1_1 * a2_1)) a0_0) + (Int.tmod (wrap64 (a1_0 * a2_0)) a0_0))) a0_0) * t130)) a0_0)] (0, 0) _ rfl (bq_ BK128) Try.underlying27 rfl (by kernel_rfl)) rfl ?_; exact ⟨by first | rfl | (simp [errW_none, errW_some] <;> rfl) | (simp [*, errW_none, errW_some] <;> rfl), by repeat (first | (with_reducible first | exact HB.out | apply below_alloc | apply pw_below_drewN | apply below_drew1 | refine below_set ?_ GE125.out | refine below_set ?_ GE126.out | refine below_set ?_ GE127.out | refine below_set ?_ GE128.out) | exact HB.out)⟩

attribute [local go_sem] fld_
/-! ### spec_l4Mul: function 23 -/
def spec_l4Mul.l0 : Nat → Int → Int → Int → Int → Int → Int → Int → Int → Int → Int → Option (Int × Int)
  | 0, _, _, _, _, _, _, _, _, _, _ => none
  | k + 1, x1, x132000, x132001, x132002, x132003, x132004, x133000, x133001, x135000, x135001 => if x1 > 0 then (if (Int.tmod x1 2) = 1 then ((spec_l4Add.f k x132000 x132001 x132002 x132003 x132004 x135000 x135001 x133000 x133001).bind fun bt135 => ((spec_l4Add.f k x132000 x132001 x132002 x132003 x132004 x133000 x133001 x133000 x133001).bind fun bt137 => (spec_l4Mul.l0 k (wrap64 (Int.tdiv x1 2)) x132000 x132001 x132002 x132003 x132004 bt137.1 bt137.2 bt135.1 bt135.2))) else ((spec_l4Add.f k x132000 x132001 x132002 x132003 x132004 x133000 x133001 x133000 x133001).bind fun bt139 => (spec_l4Mul.l0 k (wrap64 (Int.tdiv x1 2)) x132000 x132001 x132002 x132003 x132004 bt139.1 bt139.2 x135000 x135001))) else (some (x135000, x135001))
def spec_l4Mul.f (k : Nat) (a0_0 : Int) (a0_1 : Int) (a0_2 : Int) (a0_3 : Int) (a0_4 : Int) (a1 : Int) (a2_0 : Int) (a2_1 : Int) : Option (Int × Int) := spec_l4Mul.l0 k a1 a0_0 a0_1 a0_2 a0_3 a0_4 a2_0 a2_1 0 1
theorem spec_l4Mul.mono_l : ∀ k, (∀ y0 y1 y2 y3 y4 y5 y6 y7 y8 y9, LeO (spec_l4Mul.l0 k y0 y1 y2 y3 y4 y5 y6 y7 y8 y9) (spec_l4Mul.l0 (k + 1) y0 y1 y2 y3 y4 y5 y6 y7 y8 y9))
 | 0 => fun _ _ _ _ _ _ _ _ _ _ r h => by simp [spec_l4Mul.l0] at h
 | k + 1 => by
  have ih0 := spec_l4Mul.mono_l k
  ·
   intro y0 y1 y2 y3 y4 y5 y6 y7 y8 y9
   unfold spec_l4Mul.l0
   repeat' first
   | (with_reducible exact ih0 _ _ _ _ _ _ _ _ _ _)
   | (with_reducible exact spec_l4Add.mono _ _ _ _ _ _ _ _ _ _)
   | (with_reducible exact LeO.refl _)
   | (with_reducible exact LeO.none _)
   | (with_reducible refine LeO.ite ?_ ?_)
   | (with_reducible refine LeO.bind ?_ (fun _ => ?_))
   | exact ih0 _ _ _ _ _ _ _ _ _ _
   | exact spec_l4Add.mono _ _ _ _ _ _ _ _ _ _
   | exact LeO.none _
   | refine LeO.ite ?_ ?_
   | refine LeO.bind ?_ (fun _ => ?_)
theorem spec_l4Mul.mono : ∀ a0 a1 a2 a3 a4 a5 a6 a7 k, LeO (spec_l4Mul.f k a0 a1 a2 a3 a4 a5 a6 a7) (spec_l4Mul.f (k + 1) a0 a1 a2 a3 a4 a5 a6 a7) := by
 intro a0 a1 a2 a3 a4 a5 a6 a7 k; have ih0 := spec_l4Mul.mono_l k
 unfold spec_l4Mul.f
 repeat' first
   | (with_reducible exact ih0 _ _ _ _ _ _ _ _ _ _)
   | (with_reducible exact spec_l4Add.mono _ _ _ _ _ _ _ _ _ _)
   | (with_reducible exact LeO.refl _)
   | (with_reducible exact LeO.none _)
   | (with_reducible refine LeO.ite ?_ ?_)
   | (with_reducible refine LeO.bind ?_ (fun _ => ?_))
   | exact ih0 _ _ _ _ _ _ _ _ _ _
   | exact spec_l4Add.mono _ _ _ _ _ _ _ _ _ _
   | exact LeO.none _
   | refine LeO.ite ?_ ?_
   | refine LeO.bind ?_ (fun _ => ?_)
set_option maxHeartbeats 8000000 in
set_option maxRecDepth 100000 in
theorem spec_l4Mul.calls (k : Nat) (a0_0 : Int) (a0_1 : Int) (a0_2 : Int) (a0_3 : Int) (a0_4 : Int) (a1 : Int) (a2_0 : Int) (a2_1 : Int) (r1 : Int) (r2 : Int) (w : World) (h : spec_l4Mul.f k a0_0 a0_1 a0_2 a0_3 a0_4 a1 a2_0 a2_1 = some (r1, r2)) :
  Calls Try.prog 23 #[.agg #[.int .i64 a0_0, .int .i64 a0_1, .int .i64 a0_2, .int .i64 a0_3, .int .i64 a0_4], .int .i64 a1, .agg #[.int .i64 a2_0, .int .i64 a2_1]] w fun e w' => e = .returned (.agg #[.int .i64 r1, .int .i64 r2]) ∧ Below w.heap.size w w' := by
 have hu25 := Try.underlying25; have hu27 := Try.underlying27; have HB := Aside0.mk (Below.refl w.heap.size w)
 have H : (spec_l4Mul.l0 k a1 a0_0 a0_1 a0_2 a0_3 a0_4 a2_0 a2_1 0 1) = some (r1, r2) := h
 clear h
 have H' := Aside0.mk H
 clear H
 go_enter Try.func23, Try.ntmps23
 go_wp2_with (first | ((with_reducible refine gate_dst (N := 3) rfl ?_); refine box_event ?hg (N := 3) ?hd (cs := #[.int .i64 a0_0, .int .i64 a0_1, .int .i64 a0_2, .int .i64 a0_3, .int .i64 a0_4]) (t := 25) ?hr ?_; (case hd => rfl); (case hg => rfl); (case hr => first | (go_simp; done) | (go_simp; rfl)); intro gb131 hg w4 hbox hb; have BK131 := Aside0.mk hbox; have GW131 := ge_ HB hg; have GE131 := ge_ HB hg; replace HB := bs_ HB hb; clear hb hbox hg) | ((with_reducible refine gate_dst (N := 5) rfl ?_); refine box_event ?hg (N := 5) ?hd (cs := #[.int .i64 a2_0, .int .i64 a2_1]) (t := 27) ?hr ?_; (case hd => rfl); (case hg => rfl); (case hr => first | (go_simp; done) | (go_simp; rfl)); intro gb132 hg w5 hbox hb; have BK132 := Aside0.mk hbox; have GW132 := ge_ HB hg; have GE132 := ge_ HB hg; have NB131_132 := nl_ BK131 hg; have NB132_131 := nr_ BK131 hg; replace BK131 := bb_ BK131 hb; replace HB := bs_ HB hb; clear hb hbox hg) | ((with_reducible refine gate_dst (N := 6) rfl ?_); refine box_event ?hg (N := 6) ?hd (cs := #[.int .i64 0, .int .i64 0]) (t := 27) ?hr ?_; (case hd => rfl); (case hg => rfl); (case hr => first | (go_simp; done) | (go_simp; rfl)); intro gb133 hg w6 hbox hb; have BK133 := Aside0.mk hbox; have GW133 := ge_ HB hg; have GE133 := ge_ HB hg; have NB131_133 := nl_ BK131 hg; have NB133_131 := nr_ BK131 hg; have NB132_133 := nl_ BK132 hg; have NB133_132 := nr_ BK132 hg; replace BK131 := bb_ BK131 hb; replace BK132 := bb_ BK132 hb; replace HB := bs_ HB hb; clear hb hbox hg) | ((with_reducible refine gate_dst (N := 7) rfl ?_); refine box_event ?hg (N := 7) ?hd (cs := #[.int .i64 0, .int .i64 0]) (t := 27) ?hr ?_; (case hd => rfl); (case hg => rfl); (case hr => first | (go_simp; done) | (go_simp; rfl)); intro gb134 hg w7 hbox hb; have BK134 := Aside0.mk hbox; have GW134 := ge_ HB hg; have GE134 := ge_ HB hg; have NB131_134 := nl_ BK131 hg; have NB134_131 := nr_ BK131 hg; have NB132_134 := nl_ BK132 hg; have NB134_132 := nr_ BK132 hg; have NB133_134 := nl_ BK133 hg; have NB134_133 := nr_ BK133 hg; replace BK131 := bb_ BK131 hb; replace BK132 := bb_ BK132 hb; replace BK133 := bb_ BK133 hb; replace HB := bs_ HB hb; clear hb hbox hg; obtain ⟨hnb8, hnc8⟩ := nn_ NB134_131; obtain ⟨hnb9, hnc9⟩ := nn_ NB134_132; obtain ⟨hnb10, hnc10⟩ := nn_ NB134_133; obtain ⟨hcz11_0, hcz11_1, hfz11_0, hfz11_1⟩ := bx2_ BK134))
 go_loopg [1] k (fun kq v1 w' => ∃ (x1_1 : Int) (x133000_1 : Int) (x133001_1 : Int) (x135000_1 : Int) (x135001_1 : Int), v1 = .int .i64 x1_1 ∧ Aside0 (spec_l4Mul.l0 kq x1_1 a0_0 a0_1 a0_2 a0_3 a0_4 x133000_1 x133001_1 x135000_1 x135001_1 = some (r1, r2)) ∧ Aside0 (kq ≤ k) ∧ Aside0 (w'.heap[gb131]? = some (.cells #[.int .i64 a0_0, .int .i64 a0_1, .int .i64 a0_2, .int .i64 a0_3, .int .i64 a0_4] 25 (0, 0))) ∧ Aside0 (w'.heap[gb132]? = some (.cells #[.int .i64 x133000_1, .int .i64 x133001_1] 27 (0, 0))) ∧ Aside0 (w'.heap[gb133]? = some (.cells #[.int .i64 0, .int .i64 0] 27 (0, 0))) ∧ Aside0 (w'.heap[gb134]? = some (.cells #[.int .i64 x135000_1, .int .i64 x135001_1] 27 (0, 0))) ∧ Aside0 (Below w.heap.size w w'))
 case atStart => exact ⟨(a1), (a2_0), (a2_1), (0), (1), (by first | rfl | (simp; done) | (simp [*]; done)), H', ⟨Nat.le_refl _⟩, ⟨bf_ BK131⟩, ⟨bf_ BK132⟩, ⟨bf_ BK133⟩, ⟨bq_ BK134⟩, ⟨bw_ HB⟩⟩
 case round =>
  clear H'
  try clear c1
  try clear c2
  try clear p2
  try clear c8
  try clear c9
  try clear c10
  try clear hcz11_0 hcz11_1
  try clear hfz11_0 hfz11_1
  obtain ⟨x1_1, x133000_1, x133001_1, x135000_1, x135001_1, rfl, HA, HK1, BK131, BK132, BK133, BK134, HB⟩ := hrel
  cases gk with
  | zero => exact absurd HA.out (by simp [spec_l4Mul.l0])
  | succ k1 =>
   have H := HA.out; clear HA
   simp only [spec_l4Mul.l0] at H
   by_cases c12 : x1_1 > 0
   ·
    rw [if_pos c12] at H
    have c12b0 : decide (0 < x1_1) = true := decide_eq_true c12
    clear c12
    by_cases c13 : (Int.tmod x1_1 2) = 1
    ·
     rw [if_pos c13] at H
     have c13b0 : ((Int.tmod x1_1 2) == 1) = true := beq_iff_eq.mpr c13
     have c13b1 : ((Int.tmod x1_1 2) != 1) = false := bne_eq_false_iff_eq.mpr c13
     clear c13; obtain ⟨⟨t135, t136⟩, A140, H⟩ := pb_ H
     have A14 := Aside0.mk A140; clear A140; obtain ⟨⟨t137, t138⟩, A150, H⟩ := pb_ H
     have A15 := Aside0.mk A150; clear A150
     have H' := Aside0.mk H
     clear H; obtain ⟨hnb16, hnc16⟩ := nn_ NB131_132; obtain ⟨hnb17, hnc17⟩ := nn_ NB131_133; obtain ⟨hnb18, hnc18⟩ := nn_ NB131_134
     obtain ⟨hcz19_0, hcz19_1, hcz19_2, hcz19_3, hcz19_4, hfz19_0, hfz19_1, hfz19_2, hfz19_3, hfz19_4⟩ := bx5_ BK131; obtain ⟨hnb20, hnc20⟩ := nn_ NB134_132; obtain ⟨hnb21, hnc21⟩ := nn_ NB134_133
     obtain ⟨hcz22_0, hcz22_1, hfz22_0, hfz22_1⟩ := bx2_ BK134; obtain ⟨hnb23, hnc23⟩ := nn_ NB132_133
     obtain ⟨hcz24_0, hcz24_1, hfz24_0, hfz24_1⟩ := bx2_ BK132
     go_wp2_with (first | ((with_reducible refine gate_callee (f := 47) rfl ?_); refine gl_ 17 rfl rfl Try.func47 #[.agg #[.int .i64 a0_0, .int .i64 a0_1, .int .i64 a0_2, .int .i64 a0_3, .int .i64 a0_4], .agg #[.int .i64 x135000_1, .int .i64 x135001_1], .agg #[.int .i64 x133000_1, .int .i64 x133001_1]] rfl ?_; (with_reducible refine (spec_l4Add.calls k1 a0_0 a0_1 a0_2 a0_3 a0_4 x135000_1 x135001_1 x133000_1 x133001_1 t135 t136 _ A14.out).mono ?_); rintro e w25 ⟨rfl, hb⟩; refine ⟨_, rfl, ?_⟩; replace BK131 := bb_ BK131 hb; replace BK132 := bb_ BK132 hb; replace BK133 := bb_ BK133 hb; replace BK134 := bb_ BK134 hb; replace HB := bs_ HB hb; (try clear hb); (try clear hb2); (try clear hk); (try clear hi); obtain ⟨hcz26_0, hcz26_1, hfz26_0, hfz26_1⟩ := bx2_ BK134; obtain ⟨hcz27_0, hcz27_1, hcz27_2, hcz27_3, hcz27_4, hfz27_0, hfz27_1, hfz27_2, hfz27_3, hfz27_4⟩ := bx5_ BK131; have hcz28_0 : w25.cell? ⟨gb132, 0, none⟩ = some (.int .i64 x133000_1) := bc_ BK132 0; have hcz28_1 : w25.cell? ⟨gb132, 1, none⟩ = some (.int .i64 x133001_1) := bc_ BK132 1; have hfz28_0 := blk_frozen BK132.out 0; have hfz28_1 := blk_frozen BK132.out 1) | ((with_reducible refine gate_callee (f := 47) rfl ?_); refine gl_ 21 rfl rfl Try.func47 #[.agg #[.int .i64 a0_0, .int .i64 a0_1, .int .i64 a0_2, .int .i64 a0_3, .int .i64 a0_4], .agg #[.int .i64 x133000_1, .int .i64 x133001_1], .agg #[.int .i64 x133000_1, .int .i64 x133001_1]] rfl ?_; (with_reducible refine (spec_l4Add.calls k1 a0_0 a0_1 a0_2 a0_3 a0_4 x133000_1 x133001_1 x133000_1 x133001_1 t137 t138 _ A15.out).mono ?_); rintro e w29 ⟨rfl, hb⟩; refine ⟨_, rfl, ?_⟩; replace BK131 := bd_ BK131 hb; replace BK132 := bd_ BK132 hb; replace BK133 := bd_ BK133 hb; replace BK134 := be_ #[.int .i64 t135, .int .i64 t136] BK134 hb; replace HB := bs_ HB hb; (try clear hb); (try clear hb2); (try clear hk); (try clear hi); obtain ⟨hcz30_0, hcz30_1, hfz30_0, hfz30_1⟩ := bx2_ BK132))
     go_roundg k1
     case measure => have := HK1.out; omega
     case rel => exact ⟨(wrap64 (Int.tdiv x1_1 2)), (t137), (t138), (t135), (t136), (by first | rfl | (simp; done) | (simp [*]; done)), H', ⟨by have := HK1.out; omega⟩, ⟨bf_ BK131⟩, ⟨bq_ BK132⟩, ⟨bf_ BK133⟩, ⟨bf_ BK134⟩, ⟨bw_ HB⟩⟩
    ·
     rw [if_neg c13] at H
     have c13b0 : ((Int.tmod x1_1 2) == 1) = false := beq_eq_false_iff_ne.mpr c13
     have c13b1 : ((Int.tmod x1_1 2) != 1) = true := bne_iff_ne.mpr c13
     obtain ⟨⟨t139, t140⟩, A310, H⟩ := pb_ H; have A31 := Aside0.mk A310; clear A310
     have H' := Aside0.mk H
     clear H; obtain ⟨hnb32, hnc32⟩ := nn_ NB131_132; obtain ⟨hnb33, hnc33⟩ := nn_ NB131_133; obtain ⟨hnb34, hnc34⟩ := nn_ NB131_134
     obtain ⟨hcz35_0, hcz35_1, hcz35_2, hcz35_3, hcz35_4, hfz35_0, hfz35_1, hfz35_2, hfz35_3, hfz35_4⟩ := bx5_ BK131; obtain ⟨hnb36, hnc36⟩ := nn_ NB132_133; obtain ⟨hnb37, hnc37⟩ := nn_ NB132_134
     obtain ⟨hcz38_0, hcz38_1, hfz38_0, hfz38_1⟩ := bx2_ BK132
     go_wp2_with (first | ((with_reducible refine gate_callee (f := 47) rfl ?_); refine gl_ 21 rfl rfl Try.func47 #[.agg #[.int .i64 a0_0, .int .i64 a0_1, .int .i64 a0_2, .int .i64 a0_3, .int .i64 a0_4], .agg #[.int .i64 x133000_1, .int .i64 x133001_1], .agg #[.int .i64 x133000_1, .int .i64 x133001_1]] rfl ?_; (with_reducible refine (spec_l4Add.calls k1 a0_0 a0_1 a0_2 a0_3 a0_4 x133000_1 x133001_1 x133000_1 x133001_1 t139 t140 _ A31.out).mono ?_); rintro e w39 ⟨rfl, hb⟩; refine ⟨_, rfl, ?_⟩; replace BK131 := bb_ BK131 hb; replace BK132 := bb_ BK132 hb; replace BK133 := bb_ BK133 hb; replace BK134 := bb_ BK134 hb; replace HB := bs_ HB hb; (try clear hb); (try clear hb2); (try clear hk); (try clear hi); obtain ⟨hcz40_0, hcz40_1, hfz40_0, hfz40_1⟩ := bx2_ BK132))
     go_roundg k1
     case measure => have := HK1.out; omega
     case rel => exact ⟨(wrap64 (Int.tdiv x1_1 2)), (t139), (t140), (x135000_1), (x135001_1), (by first | rfl | (simp; done) | (simp [*]; done)), H', ⟨by have := HK1.out; omega⟩, ⟨bf_ BK131⟩, ⟨bq_ BK132⟩, ⟨bf_ BK133⟩, ⟨bf_ BK134⟩, ⟨bw_ HB⟩⟩
   ·
    rw [if_neg c12] at H
    have c12b0 : decide (0 < x1_1) = false := decide_eq_false c12
    clear c12
    simp only [Option.some.injEq, Prod.mk.injEq] at H
    obtain ⟨rfl, rfl⟩ := H; obtain ⟨hnb41, hnc41⟩ := nn_ NB134_131; obtain ⟨hnb42, hnc42⟩ := nn_ NB134_132; obtain ⟨hnb43, hnc43⟩ := nn_ NB134_133
    obtain ⟨hcz44_0, hcz44_1, hfz44_0, hfz44_1⟩ := bx2_ BK134; obtain ⟨hnb45, hnc45⟩ := nn_ NB133_131; obtain ⟨hnb46, hnc46⟩ := nn_ NB133_132
    obtain ⟨hcz47_0, hcz47_1, hfz47_0, hfz47_1⟩ := bx2_ BK133
    go_wp2
    refine bodyPost_ret (results_cell_row rfl _ _ gb133 27 #[.int .i64 x135000_1, .int .i64 x135001_1] (0, 0) _ rfl (bq_ BK133) Try.underlying27 rfl (by kernel_rfl)) rfl ?_; exact ⟨by first | rfl | (simp [errW_none, errW_some] <;> rfl) | (simp [*, errW_none, errW_some] <;> rfl), by repeat (first | (with_reducible first | exact HB.out | apply below_alloc | apply pw_below_drewN | apply below_drew1 | refine below_set ?_ GE131.out | refine below_set ?_ GE132.out | refine below_set ?_ GE133.out | refine below_set ?_ GE134.out) | exact HB.out)⟩

attribute [local go_sem] fld_
/-! ### spec_DrawEd: function 6 -/
def spec_DrawEd.f (k : Nat) (l0 : List Int) : Option (Int × Int × Int × Int × Int × Int × Int × Int × Int) := (spec_l1New.f k l0).bind fun bt144 => ((spec_l4Bases.f).bind fun t148 => ((spec_l1Below.f bt144.1 bt144.2.1 bt144.2.2 3).bind fun bt151 => (if 0 ≤ bt151.1 then (if bt151.1 < (t148.length : Int) then ((spec_l1Below.f bt144.1 bt151.2.1 bt151.2.2 3000).bind fun bt157 => ((spec_l4Mul.f k ((rd_T25 t148 bt151.1).f0) ((rd_T25 t148 bt151.1).f1) ((rd_T25 t148 bt151.1).f2) ((rd_T25 t148 bt151.1).f3) ((rd_T25 t148 bt151.1).f4) bt157.1 ((rd_T25 t148 bt151.1).f3) ((rd_T25 t148 bt151.1).f4)).bind fun bt160 => ((spec_l1Below.f bt144.1 bt157.2.1 bt157.2.2 300).bind fun bt162 => ((spec_l4Mul.f k ((rd_T25 t148 bt151.1).f0) ((rd_T25 t148 bt151.1).f1) ((rd_T25 t148 bt151.1).f2) ((rd_T25 t148 bt151.1).f3) ((rd_T25 t148 bt151.1).f4) bt162.1 ((rd_T25 t148 bt151.1).f3) ((rd_T25 t148 bt151.1).f4)).bind fun bt165 => (some ((rd_T25 t148 bt151.1).f0, (rd_T25 t148 bt151.1).f1, (rd_T25 t148 bt151.1).f2, (rd_T25 t148 bt151.1).f3, (rd_T25 t148 bt151.1).f4, bt160.1, bt160.2, bt165.1, bt165.2)))))) else (none)) else (none))))
theorem spec_DrawEd.mono : ∀ a0 k, LeO (spec_DrawEd.f k a0) (spec_DrawEd.f (k + 1) a0) := by
 intro a0 k
 unfold spec_DrawEd.f
 repeat' first
   | (with_reducible exact spec_l1New.mono _ _)
   | (with_reducible exact spec_l4Mul.mono _ _ _ _ _ _ _ _ _)
   | (with_reducible exact LeO.refl _)
   | (with_reducible exact LeO.none _)
   | (with_reducible refine LeO.ite ?_ ?_)
   | (with_reducible refine LeO.bind ?_ (fun _ => ?_))
   | exact spec_l1New.mono _ _
   | exact spec_l4Mul.mono _ _ _ _ _ _ _ _ _
   | exact LeO.none _
   | refine LeO.ite ?_ ?_
   | refine LeO.bind ?_ (fun _ => ?_)
def spec_DrawEd.T4 : Bool × List (List Nat × List Nat) := (true, [([], []), ([], []), ([], []), ([2], [2]), ([], []), ([1, 3, 4, 3], [1, 3, 4]), ([], []), ([], []), ([7, 5], [7]), ([], []), ([6, 8, 9, 8], [6, 8, 9]), ([0, 10, 0], [0]), ([5, 11, 0, 1, 2, 3, 4, 5, 11], [5]), ([10, 12, 0, 1, 2, 3, 4, 5, 6, 7, 8, 9, 10, 11, 12], [10])])
def spec_DrawEd.B4 : List Nat := [0, 0, 0, 4, 0, 30, 0, 0, 190, 0, 1022, 2047, 4095, 8191]
theorem spec_DrawEd.tab4 : rtab .any (opsOf Try.f6 4) = spec_DrawEd.T4 := by kernel_rfl
theorem spec_DrawEd.bits4 : waitsOk spec_DrawEd.T4.2 spec_DrawEd.B4 = true := by kernel_rfl
set_option maxHeartbeats 8000000 in
set_option maxRecDepth 100000 in
theorem spec_DrawEd.calls (k : Nat) (A0 : Option Addr) (c0 : Nat) (l0 : List Int) (r1 : Int) (r2 : Int) (r3 : Int) (r4 : Int) (r5 : Int) (r6 : Int) (r7 : Int) (r8 : Int) (r9 : Int) (w : World) (hr0 : Kd.C (Kd.int .u8) w A0 l0.length l0) (hc0 : l0.length ≤ c0) (h : spec_DrawEd.f k l0 = some (r1, r2, r3, r4, r5, r6, r7, r8, r9)) :
  Calls Try.prog 6 #[.slice A0 l0.length c0] w fun e w' => e = .returned (.tuple #[.agg #[.int .i64 r1, .int .i64 r2, .int .i64 r3, .int .i64 r4, .int .i64 r5], .agg #[.int .i64 r6, .int .i64 r7], .agg #[.int .i64 r8, .int .i64 r9]]) ∧ Below w.heap.size w w' := by
 have hu25 := Try.underlying25; have hu27 := Try.underlying27; have HR0 := Aside0.mk hr0; have HC0 := Aside0.mk hc0; clear hr0 hc0; have HB := Aside0.mk (Below.refl w.heap.size w)
 have H : ((spec_l1New.f k l0).bind fun bt144 => ((spec_l4Bases.f).bind fun t148 => ((spec_l1Below.f bt144.1 bt144.2.1 bt144.2.2 3).bind fun bt151 => (if 0 ≤ bt151.1 then (if bt151.1 < (t148.length : Int) then ((spec_l1Below.f bt144.1 bt151.2.1 bt151.2.2 3000).bind fun bt157 => ((spec_l4Mul.f k ((rd_T25 t148 bt151.1).f0) ((rd_T25 t148 bt151.1).f1) ((rd_T25 t148 bt151.1).f2) ((rd_T25 t148 bt151.1).f3) ((rd_T25 t148 bt151.1).f4) bt157.1 ((rd_T25 t148 bt151.1).f3) ((rd_T25 t148 bt151.1).f4)).bind fun bt160 => ((spec_l1Below.f bt144.1 bt157.2.1 bt157.2.2 300).bind fun bt162 => ((spec_l4Mul.f k ((rd_T25 t148 bt151.1).f0) ((rd_T25 t148 bt151.1).f1) ((rd_T25 t148 bt151.1).f2) ((rd_T25 t148 bt151.1).f3) ((rd_T25 t148 bt151.1).f4) bt162.1 ((rd_T25 t148 bt151.1).f3) ((rd_T25 t148 bt151.1).f4)).bind fun bt165 => (some ((rd_T25 t148 bt151.1).f0, (rd_T25 t148 bt151.1).f1, (rd_T25 t148 bt151.1).f2, (rd_T25 t148 bt151.1).f3, (rd_T25 t148 bt151.1).f4, bt160.1, bt160.2, bt165.1, bt165.2)))))) else (none)) else (none))))) = some (r1, r2, r3, r4, r5, r6, r7, r8, r9) := h
 clear h; obtain ⟨⟨t144, t145, t146⟩, A20, H⟩ := pb_ H
 have A2 := Aside0.mk A20; clear A20; obtain ⟨t148, A30, H⟩ := pb_ H
 have A3 := Aside0.mk A30; clear A30; obtain ⟨⟨t151, t152, t153⟩, A40, H⟩ := pb_ H
 have A4 := Aside0.mk A40; clear A40
 by_cases c5 : 0 ≤ t151
 ·
  rw [if_pos c5] at H
  have c5b0 : decide (0 ≤ t151) = true := decide_eq_true c5
  clear c5
  by_cases c6 : t151 < (t148.length : Int)
  ·
   rw [if_pos c6] at H
   have c6b0 : decide (t151 < (t148.length : Int)) = true := decide_eq_true c6
   clear c6; obtain ⟨⟨t157, t158, t159⟩, A70, H⟩ := pb_ H
   have A7 := Aside0.mk A70; clear A70; obtain ⟨⟨t160, t161⟩, A80, H⟩ := pb_ H
   have A8 := Aside0.mk A80; clear A80; obtain ⟨⟨t162, t163, t164⟩, A90, H⟩ := pb_ H
   have A9 := Aside0.mk A90; clear A90; obtain ⟨⟨t165, t166⟩, A100, H⟩ := pb_ H
   have A10 := Aside0.mk A100; clear A100
   simp only [Option.some.injEq, Prod.mk.injEq] at H
   obtain ⟨rfl, rfl, rfl, rfl, rfl, rfl, rfl, rfl, rfl⟩ := H
   go_enter Try.func6, Try.ntmps6
   try go_wp2_with (first | ((with_reducible refine gate_dst (N := 2) rfl ?_); refine box_event ?hg (N := 2) ?hd (cs := #[.int .i64 0, .int .i64 0, .int .i64 0, .int .i64 0, .int .i64 0]) (t := 25) ?hr ?_; (case hd => rfl); (case hg => rfl); (case hr => first | (go_simp; done) | (go_simp; rfl)); intro gb141 hg w11 hbox hb; have BK141 := Aside0.mk hbox; have GW141 := ge_ HB hg; have GE141 := ge_ HB hg; replace HB := bs_ HB hb; clear hb hbox hg) | ((with_reducible refine gate_dst (N := 3) rfl ?_); refine box_event ?hg (N := 3) ?hd (cs := #[.int .i64 0, .int .i64 0]) (t := 27) ?hr ?_; (case hd => rfl); (case hg => rfl); (case hr => first | (go_simp; done) | (go_simp; rfl)); intro gb142 hg w12 hbox hb; have BK142 := Aside0.mk hbox; have GW142 := ge_ HB hg; have GE142 := ge_ HB hg; have NB141_142 := nl_ BK141 hg; have NB142_141 := nr_ BK141 hg; replace BK141 := bb_ BK141 hb; replace HB := bs_ HB hb; clear hb hbox hg) | ((with_reducible refine gate_dst (N := 4) rfl ?_); refine box_event ?hg (N := 4) ?hd (cs := #[.int .i64 0, .int .i64 0]) (t := 27) ?hr ?_; (case hd => rfl); (case hg => rfl); (case hr => first | (go_simp; done) | (go_simp; rfl)); intro gb143 hg w13 hbox hb; have BK143 := Aside0.mk hbox; have GW143 := ge_ HB hg; have GE143 := ge_ HB hg; have NB141_143 := nl_ BK141 hg; have NB143_141 := nr_ BK141 hg; have NB142_143 := nl_ BK142 hg; have NB143_142 := nr_ BK142 hg; replace BK141 := bb_ BK141 hb; replace BK142 := bb_ BK142 hb; replace HB := bs_ HB hb; clear hb hbox hg) | ((with_reducible refine gate_callee (f := 20) rfl ?_); refine gl_ 9 rfl rfl Try.func20 #[.slice A0 l0.length c0] rfl ?_; (with_reducible refine (spec_l1New.calls k _ _ l0 t144 t145 t146 w _ ?side1 ?side2 ?side3 A2.out).mono ?_); (case side1 => repeat (first | (with_reducible first | exact HB.out | apply below_alloc | apply pw_below_drewN | apply below_drew1 | refine below_set ?_ GE141.out | refine below_set ?_ GE142.out | refine below_set ?_ GE143.out) | exact HB.out)); (case side2 => exact HR0.out); (case side3 => exact HC0.out); rintro e w14 ⟨g147, rfl, hi, hb, hb2⟩; refine ⟨_, rfl, ?_⟩; have HI147 := Aside0.mk hi; have NB147_141 := Aside0.mk (IsS80.ne_blk hi (blk_below (g := gb141) (o := .cells #[.int .i64 0, .int .i64 0, .int .i64 0, .int .i64 0, .int .i64 0] 25 (0, 0)) (bk_ BK141) hb2) (by decide)); have NB141_147 := Aside0.mk (Ne.symm (IsS80.ne_blk hi (blk_below (g := gb141) (o := .cells #[.int .i64 0, .int .i64 0, .int .i64 0, .int .i64 0, .int .i64 0] 25 (0, 0)) (bk_ BK141) hb2) (by decide))); have NB147_142 := Aside0.mk (IsS80.ne_blk hi (blk_below (g := gb142) (o := .cells #[.int .i64 0, .int .i64 0] 27 (0, 0)) (bk_ BK142) hb2) (by decide)); have NB142_147 := Aside0.mk (Ne.symm (IsS80.ne_blk hi (blk_below (g := gb142) (o := .cells #[.int .i64 0, .int .i64 0] 27 (0, 0)) (bk_ BK142) hb2) (by decide))); have NB147_143 := Aside0.mk (IsS80.ne_blk hi (blk_below (g := gb143) (o := .cells #[.int .i64 0, .int .i64 0] 27 (0, 0)) (bk_ BK143) hb2) (by decide)); have NB143_147 := Aside0.mk (Ne.symm (IsS80.ne_blk hi (blk_below (g := gb143) (o := .cells #[.int .i64 0, .int .i64 0] 27 (0, 0)) (bk_ BK143) hb2) (by decide))); replace BK141 := Aside0.mk (blk_below (g := gb141) (o := .cells #[.int .i64 0, .int .i64 0, .int .i64 0, .int .i64 0, .int .i64 0] 25 (0, 0)) (bk_ BK141) hb2); replace BK142 := Aside0.mk (blk_below (g := gb142) (o := .cells #[.int .i64 0, .int .i64 0] 27 (0, 0)) (bk_ BK142) hb2); replace BK143 := Aside0.mk (blk_below (g := gb143) (o := .cells #[.int .i64 0, .int .i64 0] 27 (0, 0)) (bk_ BK143) hb2); replace HB := Aside0.mk hb; (try clear hb); (try clear hb2); (try clear hk); (try clear hi)) | ((with_reducible refine gate_callee (f := 21) rfl ?_); refine gl_ 10 rfl rfl Try.func21 #[] rfl ?_; (with_reducible refine (spec_l4Bases.calls  t148 _ A3.out).mono ?_); rintro e w15 ⟨v149, rfl, ho0, hb⟩; refine ⟨_, rfl, ?_⟩; have n0_ := Aside0.mk (Kd.R_lower (Kd.R_newB ho0 (g := gb141) (o := .cells #[.int .i64 0, .int .i64 0, .int .i64 0, .int .i64 0, .int .i64 0] 25 (0, 0)) (bk_ BK141)) (below_size (by repeat (first | (with_reducible first | exact HB.out | apply below_alloc | apply pw_below_drewN | apply below_drew1 | refine below_set ?_ (IsS80.ge HI147.out) | refine below_set ?_ GE141.out | refine below_set ?_ GE142.out | refine below_set ?_ GE143.out) | exact HB.out)))); have n1_ := bb_ BK141 hb; have n2_ := bb_ BK142 hb; have n3_ := bb_ BK143 hb; have n4_ := Aside0.mk (IsS80.below (by repeat (first | (with_reducible first | exact HI147.out | apply IsS80.alloc | apply IsS80.drewN | apply IsS80.drew | apply IsS80.set_1 | apply IsS80.set_2 | refine IsS80.far ?_ NB147_141.out _ | refine IsS80.far ?_ NB147_142.out _ | refine IsS80.far ?_ NB147_143.out _) | exact HI147.out)) hb); have n5_ := Aside0.mk (below_step (by repeat (first | (with_reducible first | exact HB.out | apply below_alloc | apply pw_below_drewN | apply below_drew1 | refine below_set ?_ (IsS80.ge HI147.out) | refine below_set ?_ GE141.out | refine below_set ?_ GE142.out | refine below_set ?_ GE143.out) | exact HB.out)) hb); clear BK141; clear BK142; clear BK143; clear HI147; clear HB; have HO150 := n0_; have BK141 := n1_; have BK142 := n2_; have BK143 := n3_; have HI147 := n4_; have HB := n5_; clear n0_ n1_ n2_ n3_ n4_ n5_; (try clear hb); (try clear hb2); (try clear hk); (try clear hi); (try clear ho0)) | ((with_reducible refine gate_callee (f := 22) rfl ?_); refine gl_ 12 rfl rfl Try.func22 #[.pointer (some ⟨g147, 0, none⟩), .int .i64 3] rfl ?_; (with_reducible refine (spec_l1Below.calls g147 t144 t145 t146 3 t151 t152 t153 w _ ?side1 ?side2 A4.out).mono ?_); (case side1 => repeat (first | (with_reducible first | exact HI147.out | apply IsS80.alloc | apply IsS80.drewN | apply IsS80.drew | apply IsS80.set_1 | apply IsS80.set_2 | refine IsS80.far ?_ NB147_141.out _ | refine IsS80.far ?_ NB147_142.out _ | refine IsS80.far ?_ NB147_143.out _) | exact HI147.out)); (case side2 => repeat (first | (with_reducible first | exact HB.out | apply below_alloc | apply pw_below_drewN | apply below_drew1 | refine below_set ?_ (IsS80.ge HI147.out) | refine below_set ?_ GE141.out | refine below_set ?_ GE142.out | refine below_set ?_ GE143.out) | exact HB.out)); rintro e w16 ⟨rfl, hi, hb, hk⟩; refine ⟨_, rfl, ?_⟩; have n0_ := Aside0.mk (KeepBut.blk hk (g' := gb141) (o := .cells #[.int .i64 0, .int .i64 0, .int .i64 0, .int .i64 0, .int .i64 0] 25 (0, 0)) (bk_ BK141) NB141_147.out (by simp)); have n1_ := Aside0.mk (KeepBut.blk hk (g' := gb142) (o := .cells #[.int .i64 0, .int .i64 0] 27 (0, 0)) (bk_ BK142) NB142_147.out (by simp)); have n2_ := Aside0.mk (KeepBut.blk hk (g' := gb143) (o := .cells #[.int .i64 0, .int .i64 0] 27 (0, 0)) (bk_ BK143) NB143_147.out (by simp)); have n3_ := Aside0.mk (Kd.R_mono (Kd.R_keep (IsS80.apart (show IsS80 w _ g147 t144 t145 t146 from by repeat (first | (with_reducible first | exact HI147.out | apply IsS80.alloc | apply IsS80.drewN | apply IsS80.drew | apply IsS80.set_1 | apply IsS80.set_2 | refine IsS80.far ?_ NB147_141.out _ | refine IsS80.far ?_ NB147_142.out _ | refine IsS80.far ?_ NB147_143.out _) | exact HI147.out)) (by (with_reducible repeat (first | apply Kd.R_alloc | apply Kd.R_drewN | apply Kd.R_drew)); exact HO150.out) (by decide)) hk (fun _ h => h.2)) (fun _ h => h.1)); have n4_ := Aside0.mk hb; have n5_ := Aside0.mk hi; clear BK141; clear BK142; clear BK143; clear HO150; clear HB; clear HI147; have BK141 := n0_; have BK142 := n1_; have BK143 := n2_; have HO150 := n3_; have HB := n4_; have HI147 := n5_; clear n0_ n1_ n2_ n3_ n4_ n5_; (try clear hb); (try clear hb2); (try clear hk); (try clear hi); obtain ⟨Ao17, co17, eo17⟩ := Kd.R_slice HO150.out; subst eo17; have p154 : 0 ≤ (t151 : Int) := of_decide_eq_true (by first | (with_reducible assumption) | assumption); have q154 : t151 < (t148.length : Int) := of_decide_eq_true (by first | (with_reducible assumption) | assumption); obtain ⟨ad154, e154, hx154_0, hx154_1, hx154_2, hx154_3, hx154_4⟩ := at_T25 (Kd.R_reads' HO150.out).2.2 t151 p154 q154; cases e154; replace p154 := eq_true p154; replace q154 := eq_true q154) | ((with_reducible refine gate_dst (N := 6) rfl ?_); refine box_event ?hg (N := 6) ?hd (cs := #[.int .i64 0, .int .i64 0, .int .i64 0, .int .i64 0, .int .i64 0]) (t := 25) ?hr ?_; (case hd => rfl); (case hg => rfl); (case hr => first | (go_simp; done) | (go_simp; rfl)); intro gb155 hg w18 hbox hb; have n0_ := Aside0.mk (Kd.R_below (Kd.R_elderB (by (with_reducible repeat (first | apply Kd.R_alloc | apply Kd.R_drewN | apply Kd.R_drew)); exact HO150.out) gb155 (Nat.le_of_eq hg.symm)) hb); have n1_ := bb_ BK141 hb; have n2_ := bb_ BK142 hb; have n3_ := bb_ BK143 hb; have n4_ := Aside0.mk (IsS80.below (by repeat (first | (with_reducible first | exact HI147.out | apply IsS80.alloc | apply IsS80.drewN | apply IsS80.drew | apply IsS80.set_1 | apply IsS80.set_2 | refine IsS80.far ?_ NB147_141.out _ | refine IsS80.far ?_ NB147_142.out _ | refine IsS80.far ?_ NB147_143.out _) | exact HI147.out)) hb); have n5_ := Aside0.mk (below_step (by repeat (first | (with_reducible first | exact HB.out | apply below_alloc | apply pw_below_drewN | apply below_drew1 | refine below_set ?_ (IsS80.ge HI147.out) | refine below_set ?_ GE141.out | refine below_set ?_ GE142.out | refine below_set ?_ GE143.out) | exact HB.out)) hb); have n6_ := Aside0.mk hbox; have n7_ := Aside0.mk ((by rw [hg]; exact (below_size (by repeat (first | (with_reducible first | exact HB.out | apply below_alloc | apply pw_below_drewN | apply below_drew1 | refine below_set ?_ (IsS80.ge HI147.out) | refine below_set ?_ GE141.out | refine below_set ?_ GE142.out | refine below_set ?_ GE143.out) | exact HB.out))) : w.heap.size ≤ gb155)); have n8_ := Aside0.mk ((by rw [hg]; exact (below_size (by repeat (first | (with_reducible first | exact HB.out | apply below_alloc | apply pw_below_drewN | apply below_drew1 | refine below_set ?_ (IsS80.ge HI147.out) | refine below_set ?_ GE141.out | refine below_set ?_ GE142.out | refine below_set ?_ GE143.out) | exact HB.out))) : w.heap.size ≤ gb155)); have n9_ := nl_ BK141 hg; have n10_ := nr_ BK141 hg; have n11_ := nl_ BK142 hg; have n12_ := nr_ BK142 hg; have n13_ := nl_ BK143 hg; have n14_ := nr_ BK143 hg; have n15_ := Aside0.mk ((by rw [hg]; exact Nat.ne_of_lt (IsS80.lt (show IsS80 w _ g147 t144 t152 t153 from by repeat (first | (with_reducible first | exact HI147.out | apply IsS80.alloc | apply IsS80.drewN | apply IsS80.drew | apply IsS80.set_1 | apply IsS80.set_2 | refine IsS80.far ?_ NB147_141.out _ | refine IsS80.far ?_ NB147_142.out _ | refine IsS80.far ?_ NB147_143.out _) | exact HI147.out))) : g147 ≠ gb155)); have n16_ := Aside0.mk ((by rw [hg]; exact Nat.ne_of_gt (IsS80.lt (show IsS80 w _ g147 t144 t152 t153 from by repeat (first | (with_reducible first | exact HI147.out | apply IsS80.alloc | apply IsS80.drewN | apply IsS80.drew | apply IsS80.set_1 | apply IsS80.set_2 | refine IsS80.far ?_ NB147_141.out _ | refine IsS80.far ?_ NB147_142.out _ | refine IsS80.far ?_ NB147_143.out _) | exact HI147.out))) : gb155 ≠ g147)); clear HO150; clear BK141; clear BK142; clear BK143; clear HI147; clear HB; have HO150 := n0_; have BK141 := n1_; have BK142 := n2_; have BK143 := n3_; have HI147 := n4_; have HB := n5_; have BK155 := n6_; have GW155 := n7_; have GE155 := n8_; have NB141_155 := n9_; have NB155_141 := n10_; have NB142_155 := n11_; have NB155_142 := n12_; have NB143_155 := n13_; have NB155_143 := n14_; have NB147_155 := n15_; have NB155_147 := n16_; clear n0_ n1_ n2_ n3_ n4_ n5_ n6_ n7_ n8_ n9_ n10_ n11_ n12_ n13_ n14_ n15_ n16_; clear hb hbox hg; obtain ⟨hnb19, hnc19⟩ := nn_ NB155_141; obtain ⟨hnb20, hnc20⟩ := nn_ NB155_142; obtain ⟨hnb21, hnc21⟩ := nn_ NB155_143; obtain ⟨hnb22, hnc22⟩ := nn_ NB155_147; have hcz23_0 : w18.cell? ⟨gb155, 0, none⟩ = some (.int .i64 0) := bc_ BK155 0; have hcz23_1 : w18.cell? ⟨gb155, 1, none⟩ = some (.int .i64 0) := bc_ BK155 1; have hcz23_2 : w18.cell? ⟨gb155, 2, none⟩ = some (.int .i64 0) := bc_ BK155 2; have hcz23_3 : w18.cell? ⟨gb155, 3, none⟩ = some (.int .i64 0) := bc_ BK155 3; have hcz23_4 : w18.cell? ⟨gb155, 4, none⟩ = some (.int .i64 0) := bc_ BK155 4; have hfz23_0 := blk_frozen BK155.out 0; have hfz23_1 := blk_frozen BK155.out 1; have hfz23_2 := blk_frozen BK155.out 2; have hfz23_3 := blk_frozen BK155.out 3; have hfz23_4 := blk_frozen BK155.out 4) | ((with_reducible refine gate_dst (N := 7) rfl ?_); refine box_event ?hg (N := 7) ?hd (cs := #[.int .i64 0, .int .i64 0]) (t := 27) ?hr ?_; (case hd => rfl); (case hg => rfl); (case hr => first | (go_simp; done) | (go_simp; rfl)); intro gb156 hg w24 hbox hb; have n0_ := Aside0.mk (Kd.R_below (by (with_reducible repeat (first | apply Kd.R_alloc | apply Kd.R_drewN | apply Kd.R_drew)); exact (Kd.R_mono (Kd.R_far (p := ⟨gb155, 4, none⟩) (Kd.R_far (p := ⟨gb155, 3, none⟩) (Kd.R_far (p := ⟨gb155, 2, none⟩) (Kd.R_far (p := ⟨gb155, 1, none⟩) (Kd.R_far (p := ⟨gb155, 0, none⟩) (Kd.R_mono HO150.out (fun k_ hk => (⟨hk, hk.2⟩ : _ ∧ k_ ≠ gb155))) (fun _ hk => hk.2) (.int .i64 ((rd_T25 t148 t151).f0))) (fun _ hk => hk.2) (.int .i64 ((rd_T25 t148 t151).f1))) (fun _ hk => hk.2) (.int .i64 ((rd_T25 t148 t151).f2))) (fun _ hk => hk.2) (.int .i64 ((rd_T25 t148 t151).f3))) (fun _ hk => hk.2) (.int .i64 ((rd_T25 t148 t151).f4))) (fun _ h_ => h_.1))) hb); have n1_ := bd_ BK141 hb; have n2_ := bd_ BK142 hb; have n3_ := bd_ BK143 hb; have n4_ := Aside0.mk (IsS80.below (show IsS80 w _ g147 t144 t152 t153 from by repeat (first | (with_reducible first | exact HI147.out | apply IsS80.alloc | apply IsS80.drewN | apply IsS80.drew | apply IsS80.set_1 | apply IsS80.set_2 | refine IsS80.far ?_ NB147_141.out _ | refine IsS80.far ?_ NB147_142.out _ | refine IsS80.far ?_ NB147_143.out _ | refine IsS80.far ?_ NB147_155.out _) | exact HI147.out)) hb); have n5_ := be_ #[.int .i64 ((rd_T25 t148 t151).f0), .int .i64 ((rd_T25 t148 t151).f1), .int .i64 ((rd_T25 t148 t151).f2), .int .i64 ((rd_T25 t148 t151).f3), .int .i64 ((rd_T25 t148 t151).f4)] BK155 hb; have n6_ := Aside0.mk (below_step (by repeat (first | (with_reducible first | exact HB.out | apply below_alloc | apply pw_below_drewN | apply below_drew1 | refine below_set ?_ (IsS80.ge HI147.out) | refine below_set ?_ GE141.out | refine below_set ?_ GE142.out | refine below_set ?_ GE143.out | refine below_set ?_ GE155.out) | exact HB.out)) hb); have n7_ := Aside0.mk hbox; have n8_ := Aside0.mk ((by rw [hg]; exact (below_size (by repeat (first | (with_reducible first | exact HB.out | apply below_alloc | apply pw_below_drewN | apply below_drew1 | refine below_set ?_ (IsS80.ge HI147.out) | refine below_set ?_ GE141.out | refine below_set ?_ GE142.out | refine below_set ?_ GE143.out | refine below_set ?_ GE155.out) | exact HB.out))) : w.heap.size ≤ gb156)); have n9_ := Aside0.mk ((by rw [hg]; exact (below_size (by repeat (first | (with_reducible first | exact HB.out | apply below_alloc | apply pw_below_drewN | apply below_drew1 | refine below_set ?_ (IsS80.ge HI147.out) | refine below_set ?_ GE141.out | refine below_set ?_ GE142.out | refine below_set ?_ GE143.out | refine below_set ?_ GE155.out) | exact HB.out))) : w.heap.size ≤ gb156)); have n10_ := Aside0.mk ((by rw [hg]; exact Nat.ne_of_lt (blk_lt (g := gb141) (o := .cells #[.int .i64 0, .int .i64 0, .int .i64 0, .int .i64 0, .int .i64 0] 25 (0, 0)) (bf_ BK141)) : gb141 ≠ gb156)); have n11_ := Aside0.mk ((by rw [hg]; exact Nat.ne_of_gt (blk_lt (g := gb141) (o := .cells #[.int .i64 0, .int .i64 0, .int .i64 0, .int .i64 0, .int .i64 0] 25 (0, 0)) (bf_ BK141)) : gb156 ≠ gb141)); have n12_ := Aside0.mk ((by rw [hg]; exact Nat.ne_of_lt (blk_lt (g := gb142) (o := .cells #[.int .i64 0, .int .i64 0] 27 (0, 0)) (bf_ BK142)) : gb142 ≠ gb156)); have n13_ := Aside0.mk ((by rw [hg]; exact Nat.ne_of_gt (blk_lt (g := gb142) (o := .cells #[.int .i64 0, .int .i64 0] 27 (0, 0)) (bf_ BK142)) : gb156 ≠ gb142)); have n14_ := Aside0.mk ((by rw [hg]; exact Nat.ne_of_lt (blk_lt (g := gb143) (o := .cells #[.int .i64 0, .int .i64 0] 27 (0, 0)) (bf_ BK143)) : gb143 ≠ gb156)); have n15_ := Aside0.mk ((by rw [hg]; exact Nat.ne_of_gt (blk_lt (g := gb143) (o := .cells #[.int .i64 0, .int .i64 0] 27 (0, 0)) (bf_ BK143)) : gb156 ≠ gb143)); have n16_ := Aside0.mk ((by rw [hg]; exact Nat.ne_of_lt (blk_lt (g := gb155) (o := .cells #[.int .i64 ((rd_T25 t148 t151).f0), .int .i64 ((rd_T25 t148 t151).f1), .int .i64 ((rd_T25 t148 t151).f2), .int .i64 ((rd_T25 t148 t151).f3), .int .i64 ((rd_T25 t148 t151).f4)] 25 (0, 0)) (bq_ BK155)) : gb155 ≠ gb156)); have n17_ := Aside0.mk ((by rw [hg]; exact Nat.ne_of_gt (blk_lt (g := gb155) (o := .cells #[.int .i64 ((rd_T25 t148 t151).f0), .int .i64 ((rd_T25 t148 t151).f1), .int .i64 ((rd_T25 t148 t151).f2), .int .i64 ((rd_T25 t148 t151).f3), .int .i64 ((rd_T25 t148 t151).f4)] 25 (0, 0)) (bq_ BK155)) : gb156 ≠ gb155)); have n18_ := Aside0.mk ((by rw [hg]; exact Nat.ne_of_lt (IsS80.lt (show IsS80 w _ g147 t144 t152 t153 from by repeat (first | (with_reducible first | exact HI147.out | apply IsS80.alloc | apply IsS80.drewN | apply IsS80.drew | apply IsS80.set_1 | apply IsS80.set_2 | refine IsS80.far ?_ NB147_141.out _ | refine IsS80.far ?_ NB147_142.out _ | refine IsS80.far ?_ NB147_143.out _ | refine IsS80.far ?_ NB147_155.out _) | exact HI147.out))) : g147 ≠ gb156)); have n19_ := Aside0.mk ((by rw [hg]; exact Nat.ne_of_gt (IsS80.lt (show IsS80 w _ g147 t144 t152 t153 from by repeat (first | (with_reducible first | exact HI147.out | apply IsS80.alloc | apply IsS80.drewN | apply IsS80.drew | apply IsS80.set_1 | apply IsS80.set_2 | refine IsS80.far ?_ NB147_141.out _ | refine IsS80.far ?_ NB147_142.out _ | refine IsS80.far ?_ NB147_143.out _ | refine IsS80.far ?_ NB147_155.out _) | exact HI147.out))) : gb156 ≠ g147)); clear HO150; clear BK141; clear BK142; clear BK143; clear HI147; clear BK155; clear HB; have HO150 := n0_; have BK141 := n1_; have BK142 := n2_; have BK143 := n3_; have HI147 := n4_; have BK155 := n5_; have HB := n6_; have BK156 := n7_; have GW156 := n8_; have GE156 := n9_; have NB141_156 := n10_; have NB156_141 := n11_; have NB142_156 := n12_; have NB156_142 := n13_; have NB143_156 := n14_; have NB156_143 := n15_; have NB155_156 := n16_; have NB156_155 := n17_; have NB147_156 := n18_; have NB156_147 := n19_; clear n0_ n1_ n2_ n3_ n4_ n5_ n6_ n7_ n8_ n9_ n10_ n11_ n12_ n13_ n14_ n15_ n16_ n17_ n18_ n19_; clear hb hbox hg; obtain ⟨hnb25, hnc25⟩ := nn_ NB156_141; obtain ⟨hnb26, hnc26⟩ := nn_ NB156_142; obtain ⟨hnb27, hnc27⟩ := nn_ NB156_143; obtain ⟨hnb28, hnc28⟩ := nn_ NB156_155; obtain ⟨hnb29, hnc29⟩ := nn_ NB156_147; obtain ⟨hcz30_0, hcz30_1, hfz30_0, hfz30_1⟩ := bx2_ BK156))
   refine gwR_ (fun w31 hq_ => ?_)
   have n0_ : Aside0 (Kd.R k25 25 w31 w.heap.size (fun k_ => k_ ≠ gb141 ∧ k_ ≠ gb155) (.slice (some ad154) t148.length co17) t148) := ⟨by rw [← hq_]; (with_reducible repeat (first | apply Kd.R_alloc | apply Kd.R_drewN | apply Kd.R_drew)); exact Kd.R_mono (Kd.R_far (p := ⟨gb156, 1, none⟩) (Kd.R_far (p := ⟨gb156, 0, none⟩) (Kd.R_types HO150.out BK156.out (by decide)) (fun _ hk => hk.2) (.int .i64 ((rd_T25 t148 t151).f3))) (fun _ hk => hk.2) (.int .i64 ((rd_T25 t148 t151).f4))) (fun _ hk => ⟨hk.1.1.2, hk.1.2⟩)⟩
   have n1_ : Aside0 (w31.heap[gb141]? = some (.cells #[.int .i64 0, .int .i64 0, .int .i64 0, .int .i64 0, .int .i64 0] 25 (0, 0))) := ⟨by rw [← hq_]; exact bq_ BK141⟩
   have n2_ : Aside0 (w31.heap[gb142]? = some (.cells #[.int .i64 0, .int .i64 0] 27 (0, 0))) := ⟨by rw [← hq_]; exact bq_ BK142⟩
   have n3_ : Aside0 (w31.heap[gb143]? = some (.cells #[.int .i64 0, .int .i64 0] 27 (0, 0))) := ⟨by rw [← hq_]; exact bq_ BK143⟩
   have n4_ : Aside0 (w31.heap[gb155]? = some (.cells #[.int .i64 ((rd_T25 t148 t151).f0), .int .i64 ((rd_T25 t148 t151).f1), .int .i64 ((rd_T25 t148 t151).f2), .int .i64 ((rd_T25 t148 t151).f3), .int .i64 ((rd_T25 t148 t151).f4)] 25 (0, 0))) := ⟨by rw [← hq_]; exact bq_ BK155⟩
   have n5_ : Aside0 (w31.heap[gb156]? = some (.cells #[.int .i64 ((rd_T25 t148 t151).f3), .int .i64 ((rd_T25 t148 t151).f4)] 27 (0, 0))) := ⟨by rw [← hq_]; exact bq_ BK156⟩
   have n6_ : Aside0 (IsS80 w w31 g147 t144 t152 t153) := ⟨by rw [← hq_]; repeat (first | (with_reducible first | exact HI147.out | apply IsS80.alloc | apply IsS80.drewN | apply IsS80.drew | apply IsS80.set_1 | apply IsS80.set_2 | refine IsS80.far ?_ NB147_141.out _ | refine IsS80.far ?_ NB147_142.out _ | refine IsS80.far ?_ NB147_143.out _ | refine IsS80.far ?_ NB147_155.out _ | refine IsS80.far ?_ NB147_156.out _) | exact HI147.out)⟩
   have n7_ : Aside0 (Below w.heap.size w w31) := ⟨by rw [← hq_]; repeat (first | (with_reducible first | exact HB.out | apply below_alloc | apply pw_below_drewN | apply below_drew1 | refine below_set ?_ (IsS80.ge HI147.out) | refine below_set ?_ GE141.out | refine below_set ?_ GE142.out | refine below_set ?_ GE143.out | refine below_set ?_ GE155.out | refine below_set ?_ GE156.out) | exact HB.out)⟩
   (try clear HO150); (try clear BK141); (try clear BK142); (try clear BK143); (try clear BK155); (try clear BK156); (try clear HI147); (try clear HB)
   clear hq_; have HO150 := n0_; have BK141 := n1_; have BK142 := n2_; have BK143 := n3_; have BK155 := n4_; have BK156 := n5_; have HI147 := n6_; have HB := n7_; clear n0_ n1_ n2_ n3_ n4_ n5_ n6_ n7_; replace HO150 := Aside0.mk (Kd.R_drew HO150.out); replace BK141 := Aside0.mk (blk_drew BK141.out); replace BK142 := Aside0.mk (blk_drew BK142.out); replace BK143 := Aside0.mk (blk_drew BK143.out); replace BK155 := Aside0.mk (blk_drew BK155.out); replace BK156 := Aside0.mk (blk_drew BK156.out); replace HI147 := Aside0.mk (IsS80.drew HI147.out); replace HB := Aside0.mk (below_drew1 HB.out); refine start_ (n := 14) (S := fun w' => w'.cell? ⟨gb155, 0, none⟩ = some (.int .i64 ((rd_T25 t148 t151).f0)) ∧ w'.cell? ⟨gb155, 1, none⟩ = some (.int .i64 ((rd_T25 t148 t151).f1)) ∧ w'.cell? ⟨gb155, 2, none⟩ = some (.int .i64 ((rd_T25 t148 t151).f2)) ∧ w'.cell? ⟨gb155, 3, none⟩ = some (.int .i64 ((rd_T25 t148 t151).f3)) ∧ w'.cell? ⟨gb155, 4, none⟩ = some (.int .i64 ((rd_T25 t148 t151).f4)) ∧ w'.cell? ⟨gb156, 0, none⟩ = some (.int .i64 ((rd_T25 t148 t151).f3)) ∧ w'.cell? ⟨gb156, 1, none⟩ = some (.int .i64 ((rd_T25 t148 t151).f4))) (ds := []) (bl_ 14 0) (by kernel_rfl) rfl rfl ⟨bc_ BK155 0, bc_ BK155 1, bc_ BK155 2, bc_ BK155 3, bc_ BK155 4, bc_ BK156 0, bc_ BK156 1⟩ (fun hHeld => ?_); refine with_tabW spec_DrawEd.tab4 spec_DrawEd.bits4 (fun HT_ HW_ => ?_)
   generalize w31.drew = w32 at HO150 BK141 BK142 BK143 BK155 BK156 HI147 HB hHeld ⊢
   refine pu_ 2 22 (bl_ 14 4) rfl rfl HT_ ?_; refine pu_ 7 27 (bl_ 14 132) rfl rfl HT_ ?_; refine tk_ 0 20 (bl_ 14 133) rfl rfl HT_ HW_ hHeld (by rintro w' ⟨s0, s1, s2, s3, s4, s5, s6⟩; go_simp; with_reducible rfl) ?_; refine tk_ 1 21 (bl_ 14 135) rfl rfl HT_ HW_ hHeld (by rintro w' ⟨s0, s1, s2, s3, s4, s5, s6⟩; go_simp; with_reducible rfl) ?_; refine tk_ 4 24 (bl_ 14 151) rfl rfl HT_ HW_ hHeld (by rintro w' ⟨s0, s1, s2, s3, s4, s5, s6⟩; go_simp; with_reducible rfl) ?_; refine tk_ 6 26 (bl_ 14 215) rfl rfl HT_ HW_ hHeld (by rintro w' ⟨s0, s1, s2, s3, s4, s5, s6⟩; go_simp; with_reducible rfl) ?_; refine tk_ 9 29 (bl_ 14 727) rfl rfl HT_ HW_ hHeld (by rintro w' ⟨s0, s1, s2, s3, s4, s5, s6⟩; go_simp; with_reducible rfl) ?_; refine one_ (i := 3) (N := some 23) (bl_ 14 735) rfl rfl (one_of HT_.out (by kernel_rfl)) (by decide) (fun K hK => ?_); refine gs_ Try.func22 #[.pointer (some ⟨g147, 0, none⟩), .int .i64 3000] ?_
   with_reducible refine (spec_l1Below.calls g147 t144 t152 t153 3000 t157 t158 t159 w _ ?side1 ?side2 A7.out).mono ?_
   (case side1 => repeat (first | (with_reducible first | exact HI147.out | apply IsS80.alloc | apply IsS80.drewN | apply IsS80.drew | apply IsS80.set_1 | apply IsS80.set_2 | refine IsS80.far ?_ NB147_141.out _ | refine IsS80.far ?_ NB147_142.out _ | refine IsS80.far ?_ NB147_143.out _ | refine IsS80.far ?_ NB147_155.out _ | refine IsS80.far ?_ NB147_156.out _) | exact HI147.out))
   (case side2 => repeat (first | (with_reducible first | exact HB.out | apply below_alloc | apply pw_below_drewN | apply below_drew1 | refine below_set ?_ (IsS80.ge HI147.out) | refine below_set ?_ GE141.out | refine below_set ?_ GE142.out | refine below_set ?_ GE143.out | refine below_set ?_ GE155.out | refine below_set ?_ GE156.out) | exact HB.out))
   rintro e w33 ⟨rfl, hi, hb, hk⟩; refine ⟨_, rfl, ?_⟩; replace BK141 := Aside0.mk (KeepBut.blk hk (g' := gb141) (o := .cells #[.int .i64 0, .int .i64 0, .int .i64 0, .int .i64 0, .int .i64 0] 25 (0, 0)) (bk_ BK141) NB141_147.out (by simp)); replace BK142 := Aside0.mk (KeepBut.blk hk (g' := gb142) (o := .cells #[.int .i64 0, .int .i64 0] 27 (0, 0)) (bk_ BK142) NB142_147.out (by simp)); replace BK143 := Aside0.mk (KeepBut.blk hk (g' := gb143) (o := .cells #[.int .i64 0, .int .i64 0] 27 (0, 0)) (bk_ BK143) NB143_147.out (by simp)); replace HO150 := Aside0.mk (Kd.R_mono (Kd.R_keep (IsS80.apart (show IsS80 w _ g147 t144 t152 t153 from by repeat (first | (with_reducible first | exact HI147.out | apply IsS80.alloc | apply IsS80.drewN | apply IsS80.drew | apply IsS80.set_1 | apply IsS80.set_2 | refine IsS80.far ?_ NB147_141.out _ | refine IsS80.far ?_ NB147_142.out _ | refine IsS80.far ?_ NB147_143.out _ | refine IsS80.far ?_ NB147_155.out _ | refine IsS80.far ?_ NB147_156.out _) | exact HI147.out)) (by (with_reducible repeat (first | apply Kd.R_alloc | apply Kd.R_drewN | apply Kd.R_drew)); exact HO150.out) (by decide)) hk (fun _ h => h.2)) (fun _ h => h.1)); replace BK155 := Aside0.mk (KeepBut.blk hk (g' := gb155) (o := .cells #[.int .i64 ((rd_T25 t148 t151).f0), .int .i64 ((rd_T25 t148 t151).f1), .int .i64 ((rd_T25 t148 t151).f2), .int .i64 ((rd_T25 t148 t151).f3), .int .i64 ((rd_T25 t148 t151).f4)] 25 (0, 0)) (bk_ BK155) NB155_147.out (by simp)); replace BK156 := Aside0.mk (KeepBut.blk hk (g' := gb156) (o := .cells #[.int .i64 ((rd_T25 t148 t151).f3), .int .i64 ((rd_T25 t148 t151).f4)] 27 (0, 0)) (bk_ BK156) NB156_147.out (by simp)); replace HB := Aside0.mk hb; replace HI147 := Aside0.mk hi; (try clear hb); (try clear hb2); (try clear hk); (try clear hi); refine hK.out _ _ ⟨bc_ BK155 0, bc_ BK155 1, bc_ BK155 2, bc_ BK155 3, bc_ BK155 4, bc_ BK156 0, bc_ BK156 1⟩ (fun hHeld => ?_); clear hK K
   apply norm_
   · show Act.put _ (some 23) _ = _; simp only [Act.put, sA_, sZ_, sS_, i64_w, i32_w]; rfl
   refine one_ (i := 5) (N := some 25) (bl_ 14 767) rfl rfl (one_of HT_.out (by kernel_rfl)) (by decide) (fun K hK => ?_); refine gs_ Try.func23 #[.agg #[.int .i64 ((rd_T25 t148 t151).f0), .int .i64 ((rd_T25 t148 t151).f1), .int .i64 ((rd_T25 t148 t151).f2), .int .i64 ((rd_T25 t148 t151).f3), .int .i64 ((rd_T25 t148 t151).f4)], .int .i64 t157, .agg #[.int .i64 ((rd_T25 t148 t151).f3), .int .i64 ((rd_T25 t148 t151).f4)]] ?_
   with_reducible refine (spec_l4Mul.calls k ((rd_T25 t148 t151).f0) ((rd_T25 t148 t151).f1) ((rd_T25 t148 t151).f2) ((rd_T25 t148 t151).f3) ((rd_T25 t148 t151).f4) t157 ((rd_T25 t148 t151).f3) ((rd_T25 t148 t151).f4) t160 t161 _ A8.out).mono ?_
   rintro e w34 ⟨rfl, hb⟩; refine ⟨_, rfl, ?_⟩; have n0_ := Aside0.mk (Kd.R_below (by (with_reducible repeat (first | apply Kd.R_alloc | apply Kd.R_drewN | apply Kd.R_drew)); exact HO150.out) hb); have n1_ := bb_ BK141 hb; have n2_ := bb_ BK142 hb; have n3_ := bb_ BK143 hb; have n4_ := Aside0.mk (IsS80.below (by repeat (first | (with_reducible first | exact HI147.out | apply IsS80.alloc | apply IsS80.drewN | apply IsS80.drew | apply IsS80.set_1 | apply IsS80.set_2 | refine IsS80.far ?_ NB147_141.out _ | refine IsS80.far ?_ NB147_142.out _ | refine IsS80.far ?_ NB147_143.out _ | refine IsS80.far ?_ NB147_155.out _ | refine IsS80.far ?_ NB147_156.out _) | exact HI147.out)) hb); have n5_ := bb_ BK155 hb; have n6_ := bb_ BK156 hb; have n7_ := Aside0.mk (below_step (by repeat (first | (with_reducible first | exact HB.out | apply below_alloc | apply pw_below_drewN | apply below_drew1 | refine below_set ?_ (IsS80.ge HI147.out) | refine below_set ?_ GE141.out | refine below_set ?_ GE142.out | refine below_set ?_ GE143.out | refine below_set ?_ GE155.out | refine below_set ?_ GE156.out) | exact HB.out)) hb); clear HO150 BK141 BK142 BK143 HI147 BK155 BK156 HB; have HO150 := n0_; have BK141 := n1_; have BK142 := n2_; have BK143 := n3_; have HI147 := n4_; have BK155 := n5_; have BK156 := n6_; have HB := n7_; clear n0_ n1_ n2_ n3_ n4_ n5_ n6_ n7_; (try clear hb); (try clear hb2); (try clear hk); (try clear hi); refine hK.out _ _ ⟨bc_ BK155 0, bc_ BK155 1, bc_ BK155 2, bc_ BK155 3, bc_ BK155 4, bc_ BK156 0, bc_ BK156 1⟩ (fun hHeld => ?_); clear hK K
   apply norm_
   · show Act.put _ (some 25) _ = _; simp only [Act.put, sA_, sZ_, sS_, i64_w, i32_w]; rfl
   refine one_ (i := 8) (N := some 28) (bl_ 14 1023) rfl rfl (one_of HT_.out (by kernel_rfl)) (by decide) (fun K hK => ?_); refine gs_ Try.func22 #[.pointer (some ⟨g147, 0, none⟩), .int .i64 300] ?_
   with_reducible refine (spec_l1Below.calls g147 t144 t158 t159 300 t162 t163 t164 w _ ?side1 ?side2 A9.out).mono ?_
   (case side1 => repeat (first | (with_reducible first | exact HI147.out | apply IsS80.alloc | apply IsS80.drewN | apply IsS80.drew | apply IsS80.set_1 | apply IsS80.set_2 | refine IsS80.far ?_ NB147_141.out _ | refine IsS80.far ?_ NB147_142.out _ | refine IsS80.far ?_ NB147_143.out _ | refine IsS80.far ?_ NB147_155.out _ | refine IsS80.far ?_ NB147_156.out _) | exact HI147.out))
   (case side2 => repeat (first | (with_reducible first | exact HB.out | apply below_alloc | apply pw_below_drewN | apply below_drew1 | refine below_set ?_ (IsS80.ge HI147.out) | refine below_set ?_ GE141.out | refine below_set ?_ GE142.out | refine below_set ?_ GE143.out | refine below_set ?_ GE155.out | refine below_set ?_ GE156.out) | exact HB.out))
   rintro e w35 ⟨rfl, hi, hb, hk⟩; refine ⟨_, rfl, ?_⟩; replace BK141 := Aside0.mk (KeepBut.blk hk (g' := gb141) (o := .cells #[.int .i64 0, .int .i64 0, .int .i64 0, .int .i64 0, .int .i64 0] 25 (0, 0)) (bk_ BK141) NB141_147.out (by simp)); replace BK142 := Aside0.mk (KeepBut.blk hk (g' := gb142) (o := .cells #[.int .i64 0, .int .i64 0] 27 (0, 0)) (bk_ BK142) NB142_147.out (by simp)); replace BK143 := Aside0.mk (KeepBut.blk hk (g' := gb143) (o := .cells #[.int .i64 0, .int .i64 0] 27 (0, 0)) (bk_ BK143) NB143_147.out (by simp)); replace HO150 := Aside0.mk (Kd.R_mono (Kd.R_keep (IsS80.apart (show IsS80 w _ g147 t144 t158 t159 from by repeat (first | (with_reducible first | exact HI147.out | apply IsS80.alloc | apply IsS80.drewN | apply IsS80.drew | apply IsS80.set_1 | apply IsS80.set_2 | refine IsS80.far ?_ NB147_141.out _ | refine IsS80.far ?_ NB147_142.out _ | refine IsS80.far ?_ NB147_143.out _ | refine IsS80.far ?_ NB147_155.out _ | refine IsS80.far ?_ NB147_156.out _) | exact HI147.out)) (by (with_reducible repeat (first | apply Kd.R_alloc | apply Kd.R_drewN | apply Kd.R_drew)); exact HO150.out) (by decide)) hk (fun _ h => h.2)) (fun _ h => h.1)); replace BK155 := Aside0.mk (KeepBut.blk hk (g' := gb155) (o := .cells #[.int .i64 ((rd_T25 t148 t151).f0), .int .i64 ((rd_T25 t148 t151).f1), .int .i64 ((rd_T25 t148 t151).f2), .int .i64 ((rd_T25 t148 t151).f3), .int .i64 ((rd_T25 t148 t151).f4)] 25 (0, 0)) (bk_ BK155) NB155_147.out (by simp)); replace BK156 := Aside0.mk (KeepBut.blk hk (g' := gb156) (o := .cells #[.int .i64 ((rd_T25 t148 t151).f3), .int .i64 ((rd_T25 t148 t151).f4)] 27 (0, 0)) (bk_ BK156) NB156_147.out (by simp)); replace HB := Aside0.mk hb; replace HI147 := Aside0.mk hi; (try clear hb); (try clear hb2); (try clear hk); (try clear hi); refine hK.out _ _ ⟨bc_ BK155 0, bc_ BK155 1, bc_ BK155 2, bc_ BK155 3, bc_ BK155 4, bc_ BK156 0, bc_ BK156 1⟩ (fun hHeld => ?_); clear hK K
   apply norm_
   · show Act.put _ (some 28) _ = _; simp only [Act.put, sA_, sZ_, sS_, i64_w, i32_w]; rfl
   refine one_ (i := 10) (N := some 30) (bl_ 14 2047) rfl rfl (one_of HT_.out (by kernel_rfl)) (by decide) (fun K hK => ?_); refine gs_ Try.func23 #[.agg #[.int .i64 ((rd_T25 t148 t151).f0), .int .i64 ((rd_T25 t148 t151).f1), .int .i64 ((rd_T25 t148 t151).f2), .int .i64 ((rd_T25 t148 t151).f3), .int .i64 ((rd_T25 t148 t151).f4)], .int .i64 t162, .agg #[.int .i64 ((rd_T25 t148 t151).f3), .int .i64 ((rd_T25 t148 t151).f4)]] ?_
   with_reducible refine (spec_l4Mul.calls k ((rd_T25 t148 t151).f0) ((rd_T25 t148 t151).f1) ((rd_T25 t148 t151).f2) ((rd_T25 t148 t151).f3) ((rd_T25 t148 t151).f4) t162 ((rd_T25 t148 t151).f3) ((rd_T25 t148 t151).f4) t165 t166 _ A10.out).mono ?_
   rintro e w36 ⟨rfl, hb⟩; refine ⟨_, rfl, ?_⟩; have n0_ := Aside0.mk (Kd.R_below (by (with_reducible repeat (first | apply Kd.R_alloc | apply Kd.R_drewN | apply Kd.R_drew)); exact HO150.out) hb); have n1_ := bb_ BK141 hb; have n2_ := bb_ BK142 hb; have n3_ := bb_ BK143 hb; have n4_ := Aside0.mk (IsS80.below (by repeat (first | (with_reducible first | exact HI147.out | apply IsS80.alloc | apply IsS80.drewN | apply IsS80.drew | apply IsS80.set_1 | apply IsS80.set_2 | refine IsS80.far ?_ NB147_141.out _ | refine IsS80.far ?_ NB147_142.out _ | refine IsS80.far ?_ NB147_143.out _ | refine IsS80.far ?_ NB147_155.out _ | refine IsS80.far ?_ NB147_156.out _) | exact HI147.out)) hb); have n5_ := bb_ BK155 hb; have n6_ := bb_ BK156 hb; have n7_ := Aside0.mk (below_step (by repeat (first | (with_reducible first | exact HB.out | apply below_alloc | apply pw_below_drewN | apply below_drew1 | refine below_set ?_ (IsS80.ge HI147.out) | refine below_set ?_ GE141.out | refine below_set ?_ GE142.out | refine below_set ?_ GE143.out | refine below_set ?_ GE155.out | refine below_set ?_ GE156.out) | exact HB.out)) hb); clear HO150 BK141 BK142 BK143 HI147 BK155 BK156 HB; have HO150 := n0_; have BK141 := n1_; have BK142 := n2_; have BK143 := n3_; have HI147 := n4_; have BK155 := n5_; have BK156 := n6_; have HB := n7_; clear n0_ n1_ n2_ n3_ n4_ n5_ n6_ n7_; (try clear hb); (try clear hb2); (try clear hk); (try clear hi); refine hK.out _ _ ⟨bc_ BK155 0, bc_ BK155 1, bc_ BK155 2, bc_ BK155 3, bc_ BK155 4, bc_ BK156 0, bc_ BK156 1⟩ (fun hHeld => ?_); clear hK K
   apply norm_
   · show Act.put _ (some 30) _ = _; simp only [Act.put, sA_, sZ_, sS_, i64_w, i32_w]; rfl
   refine one_ (i := 11) (N := none) (bl_ 14 4095) rfl rfl (one_of HT_.out (by kernel_rfl)) (by decide) (fun K hK => ?_)
   have hs37 : w36.cell? ⟨gb141, 0, none⟩ = some (.int .i64 0) := bc_ BK141 0
   have hfs37 := blk_frozen BK141.out 0; have hns37_1 := NB142_141.out; have hns37_2 := NB143_141.out; have hns37_3 := NB155_141.out; have hns37_4 := NB156_141.out; have hms37_1 := NB141_142.out; have hms37_2 := NB141_143.out; have hms37_3 := NB141_155.out; have hms37_4 := NB141_156.out
   have hs38 : w36.cell? ⟨gb141, 1, none⟩ = some (.int .i64 0) := bc_ BK141 1
   have hfs38 := blk_frozen BK141.out 1; have hns38_1 := NB142_141.out; have hns38_2 := NB143_141.out; have hns38_3 := NB155_141.out; have hns38_4 := NB156_141.out; have hms38_1 := NB141_142.out; have hms38_2 := NB141_143.out; have hms38_3 := NB141_155.out; have hms38_4 := NB141_156.out
   have hs39 : w36.cell? ⟨gb141, 2, none⟩ = some (.int .i64 0) := bc_ BK141 2
   have hfs39 := blk_frozen BK141.out 2; have hns39_1 := NB142_141.out; have hns39_2 := NB143_141.out; have hns39_3 := NB155_141.out; have hns39_4 := NB156_141.out; have hms39_1 := NB141_142.out; have hms39_2 := NB141_143.out; have hms39_3 := NB141_155.out; have hms39_4 := NB141_156.out
   have hs40 : w36.cell? ⟨gb141, 3, none⟩ = some (.int .i64 0) := bc_ BK141 3
   have hfs40 := blk_frozen BK141.out 3; have hns40_1 := NB142_141.out; have hns40_2 := NB143_141.out; have hns40_3 := NB155_141.out; have hns40_4 := NB156_141.out; have hms40_1 := NB141_142.out; have hms40_2 := NB141_143.out; have hms40_3 := NB141_155.out; have hms40_4 := NB141_156.out
   have hs41 : w36.cell? ⟨gb141, 4, none⟩ = some (.int .i64 0) := bc_ BK141 4
   have hfs41 := blk_frozen BK141.out 4; have hns41_1 := NB142_141.out; have hns41_2 := NB143_141.out; have hns41_3 := NB155_141.out; have hns41_4 := NB156_141.out; have hms41_1 := NB141_142.out; have hms41_2 := NB141_143.out; have hms41_3 := NB141_155.out; have hms41_4 := NB141_156.out; refine skip_ (w1 := ?_) (by rfl) rfl ?_ ?_; rotate_left
   · go_simp; rfl
   refine hK.out _ _ ⟨((cell_far (p := ⟨gb141, _, none⟩) NB155_141.out _).trans (((cell_far (p := ⟨gb141, _, none⟩) NB155_141.out _).trans (((cell_far (p := ⟨gb141, _, none⟩) NB155_141.out _).trans (((cell_far (p := ⟨gb141, _, none⟩) NB155_141.out _).trans (((cell_far (p := ⟨gb141, _, none⟩) NB155_141.out _).trans (hHeld.1)))))))))), ((cell_far (p := ⟨gb141, _, none⟩) NB155_141.out _).trans (((cell_far (p := ⟨gb141, _, none⟩) NB155_141.out _).trans (((cell_far (p := ⟨gb141, _, none⟩) NB155_141.out _).trans (((cell_far (p := ⟨gb141, _, none⟩) NB155_141.out _).trans (((cell_far (p := ⟨gb141, _, none⟩) NB155_141.out _).trans (hHeld.2.1)))))))))), ((cell_far (p := ⟨gb141, _, none⟩) NB155_141.out _).trans (((cell_far (p := ⟨gb141, _, none⟩) NB155_141.out _).trans (((cell_far (p := ⟨gb141, _, none⟩) NB155_141.out _).trans (((cell_far (p := ⟨gb141, _, none⟩) NB155_141.out _).trans (((cell_far (p := ⟨gb141, _, none⟩) NB155_141.out _).trans (hHeld.2.2.1)))))))))), ((cell_far (p := ⟨gb141, _, none⟩) NB155_141.out _).trans (((cell_far (p := ⟨gb141, _, none⟩) NB155_141.out _).trans (((cell_far (p := ⟨gb141, _, none⟩) NB155_141.out _).trans (((cell_far (p := ⟨gb141, _, none⟩) NB155_141.out _).trans (((cell_far (p := ⟨gb141, _, none⟩) NB155_141.out _).trans (hHeld.2.2.2.1)))))))))), ((cell_far (p := ⟨gb141, _, none⟩) NB155_141.out _).trans (((cell_far (p := ⟨gb141, _, none⟩) NB155_141.out _).trans (((cell_far (p := ⟨gb141, _, none⟩) NB155_141.out _).trans (((cell_far (p := ⟨gb141, _, none⟩) NB155_141.out _).trans (((cell_far (p := ⟨gb141, _, none⟩) NB155_141.out _).trans (hHeld.2.2.2.2.1)))))))))), ((cell_far (p := ⟨gb141, _, none⟩) NB156_141.out _).trans (((cell_far (p := ⟨gb141, _, none⟩) NB156_141.out _).trans (((cell_far (p := ⟨gb141, _, none⟩) NB156_141.out _).trans (((cell_far (p := ⟨gb141, _, none⟩) NB156_141.out _).trans (((cell_far (p := ⟨gb141, _, none⟩) NB156_141.out _).trans (hHeld.2.2.2.2.2.1)))))))))), ((cell_far (p := ⟨gb141, _, none⟩) NB156_141.out _).trans (((cell_far (p := ⟨gb141, _, none⟩) NB156_141.out _).trans (((cell_far (p := ⟨gb141, _, none⟩) NB156_141.out _).trans (((cell_far (p := ⟨gb141, _, none⟩) NB156_141.out _).trans (((cell_far (p := ⟨gb141, _, none⟩) NB156_141.out _).trans (hHeld.2.2.2.2.2.2))))))))))⟩ (fun hHeld => ?_); clear hK K
   refine gw_ hHeld (fun w901 hq_ hHeld => ?_)
   have qgb141 : Aside0 (w901.heap[gb141]? = some (.cells #[.int .i64 ((rd_T25 t148 t151).f0), .int .i64 ((rd_T25 t148 t151).f1), .int .i64 ((rd_T25 t148 t151).f2), .int .i64 ((rd_T25 t148 t151).f3), .int .i64 ((rd_T25 t148 t151).f4)] 25 (0, 0))) := ⟨by rw [← hq_]; exact bq_ BK141⟩
   have qgb142 : Aside0 (w901.heap[gb142]? = some (.cells #[.int .i64 0, .int .i64 0] 27 (0, 0))) := ⟨by rw [← hq_]; exact bq_ BK142⟩
   have qgb143 : Aside0 (w901.heap[gb143]? = some (.cells #[.int .i64 0, .int .i64 0] 27 (0, 0))) := ⟨by rw [← hq_]; exact bq_ BK143⟩
   have qHB : Aside0 (Below w.heap.size w w901) := ⟨by rw [← hq_]; exact bw_ HB⟩
   clear hq_ BK141 BK142 BK143 HB; have BK141 := qgb141; have BK142 := qgb142; have BK143 := qgb143; have HB := qHB; clear qgb141 qgb142 qgb143 qHB
   refine one_ (i := 12) (N := none) (bl_ 14 8191) rfl rfl (one_of HT_.out (by kernel_rfl)) (by decide) (fun K hK => ?_)
   have hs42 : w901.cell? ⟨gb142, 0, none⟩ = some (.int .i64 0) := bc_ BK142 0
   have hfs42 := blk_frozen BK142.out 0; have hns42_0 := NB141_142.out; have hns42_2 := NB143_142.out; have hns42_3 := NB155_142.out; have hns42_4 := NB156_142.out; have hms42_0 := NB142_141.out; have hms42_2 := NB142_143.out; have hms42_3 := NB142_155.out; have hms42_4 := NB142_156.out
   have hs43 : w901.cell? ⟨gb142, 1, none⟩ = some (.int .i64 0) := bc_ BK142 1
   have hfs43 := blk_frozen BK142.out 1; have hns43_0 := NB141_142.out; have hns43_2 := NB143_142.out; have hns43_3 := NB155_142.out; have hns43_4 := NB156_142.out; have hms43_0 := NB142_141.out; have hms43_2 := NB142_143.out; have hms43_3 := NB142_155.out; have hms43_4 := NB142_156.out; refine skip_ (w1 := ?_) (by rfl) rfl ?_ ?_; rotate_left
   · go_simp; rfl
   refine hK.out _ _ ⟨((cell_far (p := ⟨gb142, _, none⟩) NB155_142.out _).trans (((cell_far (p := ⟨gb142, _, none⟩) NB155_142.out _).trans (hHeld.1)))), ((cell_far (p := ⟨gb142, _, none⟩) NB155_142.out _).trans (((cell_far (p := ⟨gb142, _, none⟩) NB155_142.out _).trans (hHeld.2.1)))), ((cell_far (p := ⟨gb142, _, none⟩) NB155_142.out _).trans (((cell_far (p := ⟨gb142, _, none⟩) NB155_142.out _).trans (hHeld.2.2.1)))), ((cell_far (p := ⟨gb142, _, none⟩) NB155_142.out _).trans (((cell_far (p := ⟨gb142, _, none⟩) NB155_142.out _).trans (hHeld.2.2.2.1)))), ((cell_far (p := ⟨gb142, _, none⟩) NB155_142.out _).trans (((cell_far (p := ⟨gb142, _, none⟩) NB155_142.out _).trans (hHeld.2.2.2.2.1)))), ((cell_far (p := ⟨gb142, _, none⟩) NB156_142.out _).trans (((cell_far (p := ⟨gb142, _, none⟩) NB156_142.out _).trans (hHeld.2.2.2.2.2.1)))), ((cell_far (p := ⟨gb142, _, none⟩) NB156_142.out _).trans (((cell_far (p := ⟨gb142, _, none⟩) NB156_142.out _).trans (hHeld.2.2.2.2.2.2))))⟩ (fun hHeld => ?_); clear hK K
   refine gw_ hHeld (fun w902 hq_ hHeld => ?_)
   have qgb141 : Aside0 (w902.heap[gb141]? = some (.cells #[.int .i64 ((rd_T25 t148 t151).f0), .int .i64 ((rd_T25 t148 t151).f1), .int .i64 ((rd_T25 t148 t151).f2), .int .i64 ((rd_T25 t148 t151).f3), .int .i64 ((rd_T25 t148 t151).f4)] 25 (0, 0))) := ⟨by rw [← hq_]; exact bq_ BK141⟩
   have qgb142 : Aside0 (w902.heap[gb142]? = some (.cells #[.int .i64 t160, .int .i64 t161] 27 (0, 0))) := ⟨by rw [← hq_]; exact bq_ BK142⟩
   have qgb143 : Aside0 (w902.heap[gb143]? = some (.cells #[.int .i64 0, .int .i64 0] 27 (0, 0))) := ⟨by rw [← hq_]; exact bq_ BK143⟩
   have qHB : Aside0 (Below w.heap.size w w902) := ⟨by rw [← hq_]; exact bw_ HB⟩
   clear hq_ BK141 BK142 BK143 HB; have BK141 := qgb141; have BK142 := qgb142; have BK143 := qgb143; have HB := qHB; clear qgb141 qgb142 qgb143 qHB
   refine one_ (i := 13) (N := none) (bl_ 14 16383) rfl rfl (one_of HT_.out (by kernel_rfl)) (by decide) (fun K hK => ?_)
   have hs44 : w902.cell? ⟨gb143, 0, none⟩ = some (.int .i64 0) := bc_ BK143 0
   have hfs44 := blk_frozen BK143.out 0; have hns44_0 := NB141_143.out; have hns44_1 := NB142_143.out; have hns44_3 := NB155_143.out; have hns44_4 := NB156_143.out; have hms44_0 := NB143_141.out; have hms44_1 := NB143_142.out; have hms44_3 := NB143_155.out; have hms44_4 := NB143_156.out
   have hs45 : w902.cell? ⟨gb143, 1, none⟩ = some (.int .i64 0) := bc_ BK143 1
   have hfs45 := blk_frozen BK143.out 1; have hns45_0 := NB141_143.out; have hns45_1 := NB142_143.out; have hns45_3 := NB155_143.out; have hns45_4 := NB156_143.out; have hms45_0 := NB143_141.out; have hms45_1 := NB143_142.out; have hms45_3 := NB143_155.out; have hms45_4 := NB143_156.out; refine skip_ (w1 := ?_) (by rfl) rfl ?_ ?_; rotate_left
   · go_simp; rfl
   refine hK.out _ _ ⟨((cell_far (p := ⟨gb143, _, none⟩) NB155_143.out _).trans (((cell_far (p := ⟨gb143, _, none⟩) NB155_143.out _).trans (hHeld.1)))), ((cell_far (p := ⟨gb143, _, none⟩) NB155_143.out _).trans (((cell_far (p := ⟨gb143, _, none⟩) NB155_143.out _).trans (hHeld.2.1)))), ((cell_far (p := ⟨gb143, _, none⟩) NB155_143.out _).trans (((cell_far (p := ⟨gb143, _, none⟩) NB155_143.out _).trans (hHeld.2.2.1)))), ((cell_far (p := ⟨gb143, _, none⟩) NB155_143.out _).trans (((cell_far (p := ⟨gb143, _, none⟩) NB155_143.out _).trans (hHeld.2.2.2.1)))), ((cell_far (p := ⟨gb143, _, none⟩) NB155_143.out _).trans (((cell_far (p := ⟨gb143, _, none⟩) NB155_143.out _).trans (hHeld.2.2.2.2.1)))), ((cell_far (p := ⟨gb143, _, none⟩) NB156_143.out _).trans (((cell_far (p := ⟨gb143, _, none⟩) NB156_143.out _).trans (hHeld.2.2.2.2.2.1)))), ((cell_far (p := ⟨gb143, _, none⟩) NB156_143.out _).trans (((cell_far (p := ⟨gb143, _, none⟩) NB156_143.out _).trans (hHeld.2.2.2.2.2.2))))⟩ (fun hHeld => ?_); clear hK K; refine done_ (done_of HT_.out (by kernel_rfl)) ?_
   try go_wp2
   refine bodyPost_ret (results_list (rs := [.cell 2 25, .cell 3 27, .cell 4 27]) rfl (by simp) (.cell gb141 25 #[.int .i64 ((rd_T25 t148 t151).f0), .int .i64 ((rd_T25 t148 t151).f1), .int .i64 ((rd_T25 t148 t151).f2), .int .i64 ((rd_T25 t148 t151).f3), .int .i64 ((rd_T25 t148 t151).f4)] (0, 0) _ rfl (bq_ BK141) Try.underlying25 rfl (by kernel_rfl) (.cell gb142 27 #[.int .i64 t160, .int .i64 t161] (0, 0) _ rfl (bq_ BK142) Try.underlying27 rfl (by kernel_rfl) (.cell gb143 27 #[.int .i64 t165, .int .i64 t166] (0, 0) _ rfl (bq_ BK143) Try.underlying27 rfl (by kernel_rfl) .nil)))) rfl ?_; exact ⟨by first | rfl | (simp [errW_none, errW_some] <;> rfl) | (simp [*, errW_none, errW_some] <;> rfl), by repeat (first | (with_reducible first | exact HB.out | apply below_alloc | apply pw_below_drewN | apply below_drew1 | refine below_set ?_ (IsS80.ge HI147.out) | refine below_set ?_ GE141.out | refine below_set ?_ GE142.out | refine below_set ?_ GE143.out | refine below_set ?_ GE155.out | refine below_set ?_ GE156.out) | exact HB.out)⟩
  · rw [if_neg c6] at H; exact absurd H (by simp)
 · rw [if_neg c5] at H; exact absurd H (by simp)

attribute [local go_sem] fld_
/-! ### impl_within: function 24 -/
def impl_within.f (a0 : Int) (a1 : Int) (a2 : Int) : Option (Bool) := if a0 ≥ a1 then (some (decide (a0 ≤ a2))) else (some false)
set_option maxHeartbeats 8000000 in
set_option maxRecDepth 100000 in
theorem impl_within.calls (a0 : Int) (a1 : Int) (a2 : Int) (r : Bool) (w : World) (h : impl_within.f a0 a1 a2 = some r) :
    Calls Try.prog 24 #[.int .i64 a0, .int .i64 a1, .int .i64 a2] w fun e w' => e = .returned (.bool r) ∧ Drawn0 w w' := by
  have H : (if a0 ≥ a1 then (some (decide (a0 ≤ a2))) else (some false)) = some r := h
  clear h
  by_cases c4 : a0 ≥ a1
  · rw [if_pos c4] at H
    have c4b0 : decide (a1 ≤ a0) = true := decide_eq_true c4
    clear c4
    obtain rfl := Option.some.inj H
    go_enter Try.func24, Try.ntmps24
    go_wp2
    go_ret
    exact ⟨by first | rfl | (simp; done) | (simp [*]; done), by repeat (first | exact Drawn0.refl _ | apply Drawn0.step)⟩
  · rw [if_neg c4] at H
    have c4b0 : decide (a1 ≤ a0) = false := decide_eq_false c4
    clear c4
    obtain rfl := Option.some.inj H
    go_enter Try.func24, Try.ntmps24
    go_wp2
    go_ret
    exact ⟨by first | rfl | (simp; done) | (simp [*]; done), by repeat (first | exact Drawn0.refl _ | apply Drawn0.step)⟩

end Go.Proofs.Ytfdlblckmlbhoaa.PFnTwisted
