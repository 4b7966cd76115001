-- Written for this claim by a program of this session.
import Derived.Test.YtehdmpfeddieoaaPFnPowersx0
import Derived.Test.YtehdmpfeddieoaaPFnPowersx1
import Derived.Test.YtehdmpfeddieoaaPFnPowersx2
import Derived.Test.YtehdmpfeddieoaaPFnPowersx3
namespace Go.Proofs.Ytehdmpfeddieoaa.PFnPowers
open Go.RowKit Go.Proofs.YtehdmpfeddieoaaW.PrintWords Go.Proofs.YtehdmpfeddieoaaW.PrintLast Go.Proofs.YtehdmpfeddieoaaW.PrintMore
attribute [local go_sem] max2_int min2_int max_two min_two max_three min_three max_four min_four   -- for this text's walks alone
set_option linter.unusedVariables false
set_option linter.unusedSimpArgs false

/-! ### impl_natDiv: function 45: its walk is written by hand, over the walks of takeAway and giveBack on a part of a row -/
attribute [local go_sem] max2_int min2_int max_two min_two max_three min_three max_four min_four   -- for this text's walks alone
/-- What a part of a row is put back into. -/
def spl (L : List Int) (o : Nat) (x : List Int) : List Int := L.take o ++ x ++ L.drop (o + x.length)
theorem spl_len {L x : List Int} {o : Nat} (h : o + x.length ≤ L.length) : (spl L o x).length = L.length := by
  unfold spl
  simp only [List.length_append, List.length_take, List.length_drop]
  omega
theorem spl_set {L x : List Int} {o i : Nat} {v : Int} (h : o + x.length ≤ L.length) (hi : i < x.length) : (spl L o x).set (o + i) v = spl L o (x.set i v) := by
  unfold spl
  have h1 : (L.take o).length = o := by rw [List.length_take]; omega
  rw [List.append_assoc, List.set_append_right _ _ (by omega), h1, Nat.add_sub_cancel_left, List.set_append_left _ _ hi, ← List.append_assoc, List.length_set]
theorem spl_mid {L x : List Int} {o : Nat} (h : o + x.length ≤ L.length) : ((spl L o x).drop o).take x.length = x := by
  unfold spl
  have h1 : (L.take o).length = o := by rw [List.length_take]; omega
  rw [List.append_assoc, List.drop_append_of_le_length (by omega), List.drop_of_length_le (by omega), List.nil_append, List.take_append_of_le_length (Nat.le_refl _), List.take_of_length_le (Nat.le_refl _)]
theorem spl_self {L : List Int} {o m : Nat} (h : o + m ≤ L.length) : spl L o ((L.drop o).take m) = L := by
  unfold spl
  have h1 : ((L.drop o).take m).length = m := by rw [List.length_take, List.length_drop]; omega
  rw [h1, List.append_assoc]
  have h2 : (L.drop o).take m ++ L.drop (o + m) = L.drop o := by rw [← List.drop_drop, List.take_append_drop]
  rw [h2, List.take_append_drop]
theorem sub_C {w : World} {g o : Nat} {L x : List Int} (h : Kd.C (Kd.int .i64) w (some ⟨g, 0, none⟩) (spl L o x).length (spl L o x)) (ho : o + x.length ≤ L.length) : Kd.C (Kd.int .i64) w (some ⟨g, o, none⟩) x.length x := by
  have h1 := Kd.C_drop (m := o) (c := (spl L o x).length + o + 1) h (by rw [spl_len ho]; omega) (by omega)
  rw [if_neg (by omega)] at h1
  have h2 := Kd.C_take (m := x.length) h1 (by rw [List.length_drop, spl_len ho]; omega)
  rw [spl_mid ho] at h2
  have e : (some (⟨g, 0, none⟩ : Addr)).map (·.add (o * (Kd.int .i64).sz)) = some ⟨g, o, none⟩ := by
    show some (Addr.add ⟨g, 0, none⟩ (o * 1)) = _
    rw [Nat.mul_one]
    unfold Addr.add
    by_cases h0 : o = 0
    · subst h0; simp
    · simp [h0]
  rw [e] at h2
  exact h2
theorem sub_cell {W : World} {base g o cap : Nat} {P : Nat → Prop} {L x : List Int} (h : Kd.R (Kd.int .i64) 3 W base P (.slice (some ⟨g, 0, none⟩) L.length cap) (spl L o x)) (ho : o + x.length ≤ L.length) (i : Int) (h0 : 0 ≤ i) (h1 : i < x.length) :
    W.cell? ⟨g, o + i.toNat, none⟩ = some (.int .i64 (rd x i)) ∧ W.frozen? ⟨g, o + i.toNat, none⟩ = false := by
  have h2 := Kd.R_celln 0 h ((o : Int) + i) (by omega) (by omega)
  have e : ((o : Int) + i).toNat = o + i.toNat := by omega
  rw [e] at h2
  refine ⟨?_, h2.2⟩
  have h3 := Kd.at_int (sub_C (by have := (Kd.R_reads' h).2.2; exact this) ho) i h0 h1
  obtain ⟨ad, e1, e2⟩ := h3
  cases e1
  have e3 : (⟨g, o, none⟩ : Addr).add i.toNat = ⟨g, o + i.toNat, none⟩ := by
    unfold Addr.add
    by_cases h0 : i.toNat = 0
    · rw [h0]; simp
    · simp [h0]
  rw [e3] at e2
  exact e2
theorem sub_putg {W : World} {base g o cap : Nat} {P : Nat → Prop} {L x : List Int} (h : Kd.R (Kd.int .i64) 3 W base P (.slice (some ⟨g, 0, none⟩) L.length cap) (spl L o x)) (ho : o + x.length ≤ L.length) (i : Int) (v : Int) (h0 : 0 ≤ i) (h1 : i < x.length) :
    Kd.R (Kd.int .i64) 3 (W.setCell ⟨g, o + i.toNat, none⟩ (.int .i64 v)) base P (.slice (some ⟨g, 0, none⟩) L.length cap) (spl L o (x.set i.toNat v)) ∧ W.grownBy (W.setCell ⟨g, o + i.toNat, none⟩ (.int .i64 v)) (some g) := by
  have h2 := Kd.R_putg h ((o : Int) + i) v
  have e : ((o : Int) + i).toNat = o + i.toNat := by omega
  rw [e, spl_set ho (by omega)] at h2
  exact h2
theorem adp_ (g o n : Nat) : (⟨g, o, none⟩ : Addr).add n = ⟨g, o + n, none⟩ := by
  unfold Addr.add
  by_cases h0 : n = 0
  · rw [h0]; simp
  · simp [h0]
theorem sub_cell' {W : World} {base g o cap : Nat} {P : Nat → Prop} {L x : List Int} (h : Kd.R (Kd.int .i64) 3 W base P (.slice (some ⟨g, 0, none⟩) L.length cap) (spl L o x)) (ho : o + x.length ≤ L.length) (i : Int) (h0 : 0 ≤ i) (h1 : i < x.length) :
    W.cell? ((⟨g, o, none⟩ : Addr).add i.toNat) = some (.int .i64 (rd x i)) ∧ W.frozen? ((⟨g, o, none⟩ : Addr).add i.toNat) = false := by
  rw [adp_]
  exact sub_cell h ho i h0 h1
theorem sub_putg' {W : World} {base g o cap : Nat} {P : Nat → Prop} {L x : List Int} (h : Kd.R (Kd.int .i64) 3 W base P (.slice (some ⟨g, 0, none⟩) L.length cap) (spl L o x)) (ho : o + x.length ≤ L.length) (i : Int) (v : Int) (h0 : 0 ≤ i) (h1 : i < x.length) :
    Kd.R (Kd.int .i64) 3 (W.setCell ((⟨g, o, none⟩ : Addr).add i.toNat) (.int .i64 v)) base P (.slice (some ⟨g, 0, none⟩) L.length cap) (spl L o (x.set i.toNat v)) ∧ W.grownBy (W.setCell ((⟨g, o, none⟩ : Addr).add i.toNat) (.int .i64 v)) (some g) := by
  rw [adp_]
  exact sub_putg h ho i v h0 h1
set_option maxHeartbeats 8000000 in
set_option maxRecDepth 100000 in
theorem impl_takeAway.at_ (k : Nat) (P0_ : Nat → Prop) (g_ cap_ o_ cc_ : Nat) (L_ l0 : List Int) (A1 : Option Addr) (c1 : Nat) (l1 : List Int) (a2 : Int) (r1 : Bool) (r2 : List Int) (w0 w : World) (hB : Below w0.heap.size w0 w) (hle_ : o_ + l0.length ≤ L_.length) (ho0 : Kd.R (Kd.int .i64) 3 w w0.heap.size P0_ (.slice (some ⟨g_, 0, none⟩) L_.length cap_) (spl L_ o_ l0)) (hr1 : ∀ W_, Kept w W_ (fun k_ => P0_ k_) → Kd.C (Kd.int .i64) W_ A1 l1.length l1) (hc1 : l1.length ≤ c1) (h : impl_takeAway.f k l0 l1 a2 = some (r1, r2)) :
    Calls Try.prog 86 #[.slice (some ⟨g_, o_, none⟩) l0.length cc_, .slice A1 l1.length c1, .int .i64 a2] w fun e w' => e = .returned (.bool r1) ∧ r2.length = l0.length ∧ Kd.R (Kd.int .i64) 3 w' w0.heap.size (fun k_ => (P0_ k_ ∨ w.heap.size ≤ k_)) (.slice (some ⟨g_, 0, none⟩) L_.length cap_) (spl L_ o_ r2) ∧ Below w0.heap.size w0 w' ∧ Kept w w' (fun k_ => P0_ k_) := by
  have HO0 := Aside0.mk (show Kd.R (Kd.int .i64) 3 w w0.heap.size (fun k_ => (P0_ k_ ∨ w.heap.size ≤ k_)) (.slice (some ⟨g_, 0, none⟩) L_.length cap_) (spl L_ o_ l0) from Kd.R_mono ho0 (fun k_ hk => (.inl hk)))
  have HR1 := Aside0.mk hr1
  have HC1 := Aside0.mk hc1
  clear hr1 hc1
  have HK := Aside0.mk (Kept.refl w (fun k_ => P0_ k_))
  have HW0 := Aside0.mk hB.size
  have HB := Aside0.mk hB
  clear hB
  have H : (impl_takeAway.l0 k l0 l1 a2 0 (l0.length : Int) 0) = some (r1, r2) := h
  clear h
  have H' := Aside0.mk H
  clear H
  go_enter Try.func86, Try.ntmps86
  go_wp2
  go_loopg [7, 12] k (fun kq v7 v12 w' => ∃ (x0_1 : List Int) (x7_1 : Int) (x12_1 : Int), v7 = .int .i64 x7_1 ∧ v12 = .int .i64 x12_1 ∧ Aside0 (impl_takeAway.l0 kq x0_1 l1 a2 x7_1 (l0.length : Int) x12_1 = some (r1, r2)) ∧ Aside0 (kq ≤ k) ∧ Aside0 (x0_1.length = l0.length) ∧ Aside0 (Kd.R (Kd.int .i64) 3 w' w0.heap.size (fun k_ => (P0_ k_ ∨ w.heap.size ≤ k_)) (.slice (some ⟨g_, 0, none⟩) L_.length cap_) (spl L_ o_ x0_1)) ∧ Aside0 (Kept w w' (fun k_ => P0_ k_)) ∧ Aside0 (Below w0.heap.size w0 w'))
  case atStart => exact ⟨(l0), (0), (0), (by first | rfl | (simp; done) | (simp [*]; done)), (by first | rfl | (simp; done) | (simp [*]; done)), H', ⟨Nat.le_refl _⟩, ⟨rfl⟩, ⟨by (with_reducible repeat (first | apply Kd.R_alloc | apply Kd.R_drewN | apply Kd.R_drew)); exact HO0.out⟩, ⟨by repeat (first | (with_reducible first | exact HK.out | apply Kept.alloc | apply Kept.drewN | apply Kept.drew) | exact HK.out)⟩, ⟨by repeat (first | (with_reducible first | exact HB.out | apply below_alloc | apply pw_below_drewN | apply below_drew1) | exact HB.out)⟩⟩
  case round =>
    clear H'
    try clear c1
    try clear p2
    obtain ⟨x0_1, x7_1, x12_1, rfl, rfl, HA, HK1, HL_0, HO_0, HK, HB⟩ := hrel
    have hl0_1 : l0.length = x0_1.length := HL_0.out.symm
    have ho1_ : o_ + x0_1.length ≤ L_.length := by rw [HL_0.out]; exact hle_
    (try simp only [hl0_1])
    cases gk with
    | zero => exact absurd HA.out (by simp [impl_takeAway.l0])
    | succ k1 =>
      have H := HA.out
      clear HA
      simp only [impl_takeAway.l0] at H
      by_cases c5 : x12_1 < (l0.length : Int)
      · rw [if_pos c5] at H
        have c5b0 : decide (x12_1 < (l0.length : Int)) = true := decide_eq_true c5
        clear c5
        by_cases c6 : 0 ≤ x12_1
        · rw [if_pos c6] at H
          have c6b0 : decide (0 ≤ x12_1) = true := decide_eq_true c6
          clear c6
          by_cases c7 : x12_1 < (x0_1.length : Int)
          · rw [if_pos c7] at H
            have c7b0 : decide (x12_1 < (x0_1.length : Int)) = true := decide_eq_true c7
            clear c7
            by_cases c8 : x12_1 < (l1.length : Int)
            · rw [if_pos c8] at H
              have c8b0 : decide (x12_1 < (l1.length : Int)) = true := decide_eq_true c8
              clear c8
              obtain ⟨y264, hy264⟩ : ∃ y_ : List Int, y_ = (x0_1.set (x12_1 : Int).toNat (Go.bits .and .i64 (wrap64 ((wrap64 ((rd x0_1 x12_1) + x7_1)) - (wrap64 (a2 * (rd l1 x12_1))))) 65535)) := ⟨_, rfl⟩
              replace H : (impl_takeAway.l0 k1 y264 l1 a2 ((wrap64 ((wrap64 ((rd x0_1 x12_1) + x7_1)) - (wrap64 (a2 * (rd l1 x12_1))))) / 65536) (l0.length : Int) (wrap64 (x12_1 + 1))) = some (r1, r2) := by first | (rw [hy264]; with_reducible exact H) | (have H2_ := (Option.bind_some _ _).symm.trans H; rw [hy264]; with_reducible exact H2_) | (have H2_ := (Option.bind_some _ _).symm.trans H; with_reducible exact H2_) | with_reducible exact H | (rw [hy264]; exact H) | exact H
              have Ny264 := Aside0.mk hy264
              clear hy264
              have H' := Aside0.mk H
              clear H
              have p262 : 0 ≤ (x12_1 : Int) := of_decide_eq_true (by first | (with_reducible assumption) | assumption)
              have q262 : x12_1 < (x0_1.length : Int) := of_decide_eq_true (by first | (with_reducible assumption) | assumption)
              obtain ⟨ad262, e262, hx262_0⟩ := Kd.at_int (sub_C (by have h_ := (Kd.R_reads' HO_0.out).2.2; exact h_) ho1_) x12_1 p262 q262
              cases e262
              replace p262 := eq_true p262
              replace q262 := eq_true q262
              have p263 : 0 ≤ (x12_1 : Int) := of_decide_eq_true (by first | (with_reducible assumption) | assumption)
              have q263 : x12_1 < (l1.length : Int) := of_decide_eq_true (by first | (with_reducible assumption) | assumption)
              obtain ⟨ad263, e263, hx263_0⟩ := Kd.at_int (Kd.C_kept_now HR1.out HK.out) x12_1 p263 q263
              cases e263
              replace p263 := eq_true p263
              replace q263 := eq_true q263
              have p9 : 0 ≤ (x12_1 : Int) := of_decide_eq_true (by first | (with_reducible assumption) | assumption)
              have q9 : (x12_1 : Int) < ((x0_1.length : Int) : Int) := of_decide_eq_true (by first | (with_reducible assumption) | assumption)
              obtain ⟨gz_, co9, eo9, gb9, gl9, cl9, HG9⟩ := Kd.R_form HO_0.out (by have h_ := spl_len ho1_; omega)
              obtain rfl : g_ = gz_ := by injection eo9 with e1_ _ _; injection e1_ with e1_; injection e1_
              clear eo9
              have GB9 := Aside0.mk gb9
              have GG9 := Aside0.mk HG9
              clear gb9 gl9 HG9
              have HMg_ := Aside0.mk (show (P0_ g_ ∨ w.heap.size ≤ g_) from (HO_0.out.1 _ rfl))
              rw [adp_] at hx262_0
              obtain ⟨hx9_0, hf9_0⟩ := sub_cell HO_0.out ho1_ (x12_1 : Int) p9 q9
              replace p9 := eq_true p9
              replace q9 := eq_true q9
              have HP10 := fun v_ p_ q_ => sub_putg HO_0.out ho1_ (x12_1 : Int) v_ p_ q_; replace HP10 := HP10 (Go.bits .and .i64 (wrap64 ((wrap64 ((rd x0_1 x12_1) + x7_1)) - (wrap64 (a2 * (rd l1 x12_1))))) 65535) (of_eq_true (by first | (with_reducible assumption) | assumption)) (of_eq_true (by first | (with_reducible assumption) | assumption))
              go_wp2_with (first | ((with_reducible refine gate_store (t := 3) (p := 37) rfl ?_); refine store_event (t := 3) (p := 37) (v := ?vo_w11) (w1 := (wr.setCell ⟨g_, o_ + (x12_1 : Int).toNat, none⟩ (.int .i64 (Go.bits .and .i64 (wrap64 ((wrap64 ((rd x0_1 x12_1) + x7_1)) - (wrap64 (a2 * (rd l1 x12_1))))) 65535)))) ?hg ?ho ?hn ?hr ?_; (case ho => rfl); (case hg => rfl); (case hn => rfl); (case hr => first | (go_simp; done) | (go_simp; rfl)); intro w11 hw; have hg : wr.grownBy w11 (some g_) := (by rw [hw]; exact HP10.2); have hp_ : Kd.R (Kd.int .i64) 3 w11 w0.heap.size (fun k_ => (P0_ k_ ∨ w.heap.size ≤ k_)) (.slice (some ⟨g_, 0, none⟩) L_.length cap_) (spl L_ o_ y264) := (by rw [hw, Ny264.out]; exact HP10.1); clear HP10; have n0_ := Aside0.mk (hp_); have n1_ := Aside0.mk ((by rw [hw]; exact below_set (HB.out) GB9.out : Below w0.heap.size w0 w11)); have n2_ := Aside0.mk (Kept.of_grown (S := (fun k_ => P0_ k_)) hg (by repeat (first | (with_reducible first | exact HK.out | apply Kept.alloc | apply Kept.drewN | apply Kept.drew) | exact HK.out)) (fun k_ e_ => (HO_0.out.1 k_ e_))); clear HO_0; clear HB; clear HK; have HO_0 := n0_; have HB := n1_; have HK := n2_; clear n0_ n1_ n2_; clear hg hw hp_))
              (try simp only [← hl0_1])
              go_roundg k1
              case measure => have := HK1.out; omega
              case rel => exact ⟨(y264), ((wrap64 ((wrap64 ((rd x0_1 x12_1) + x7_1)) - (wrap64 (a2 * (rd l1 x12_1))))) / 65536), (wrap64 (x12_1 + 1)), (by first | rfl | (simp; done) | (simp [*]; done)), (by first | rfl | (simp; done) | (simp [*]; done)), H', ⟨by have := HK1.out; omega⟩, ⟨by rw [Ny264.out, List.length_set]; (first | exact HL_0.out | (have h_ := HL_0.out; omega))⟩, ⟨by (try simp only [hl0_1]); (with_reducible repeat (first | apply Kd.R_alloc | apply Kd.R_drewN | apply Kd.R_drew)); exact HO_0.out⟩, ⟨by repeat (first | (with_reducible first | exact HK.out | apply Kept.alloc | apply Kept.drewN | apply Kept.drew) | exact HK.out)⟩, ⟨by repeat (first | (with_reducible first | exact HB.out | apply below_alloc | apply pw_below_drewN | apply below_drew1) | exact HB.out)⟩⟩
            · rw [if_neg c8] at H
              have c8b0 : decide (x12_1 < (l1.length : Int)) = false := decide_eq_false c8
              clear c8
              obtain ⟨y265, hy265⟩ : ∃ y_ : List Int, y_ = (x0_1.set (x12_1 : Int).toNat (Go.bits .and .i64 (wrap64 ((rd x0_1 x12_1) + x7_1)) 65535)) := ⟨_, rfl⟩
              replace H : (impl_takeAway.l0 k1 y265 l1 a2 ((wrap64 ((rd x0_1 x12_1) + x7_1)) / 65536) (l0.length : Int) (wrap64 (x12_1 + 1))) = some (r1, r2) := by first | (rw [hy265]; with_reducible exact H) | (have H2_ := (Option.bind_some _ _).symm.trans H; rw [hy265]; with_reducible exact H2_) | (have H2_ := (Option.bind_some _ _).symm.trans H; with_reducible exact H2_) | with_reducible exact H | (rw [hy265]; exact H) | exact H
              have Ny265 := Aside0.mk hy265
              clear hy265
              have H' := Aside0.mk H
              clear H
              have p262 : 0 ≤ (x12_1 : Int) := of_decide_eq_true (by first | (with_reducible assumption) | assumption)
              have q262 : x12_1 < (x0_1.length : Int) := of_decide_eq_true (by first | (with_reducible assumption) | assumption)
              obtain ⟨ad262, e262, hx262_0⟩ := Kd.at_int (sub_C (by have h_ := (Kd.R_reads' HO_0.out).2.2; exact h_) ho1_) x12_1 p262 q262
              cases e262
              replace p262 := eq_true p262
              replace q262 := eq_true q262
              have p12 : 0 ≤ (x12_1 : Int) := of_decide_eq_true (by first | (with_reducible assumption) | assumption)
              have q12 : (x12_1 : Int) < ((x0_1.length : Int) : Int) := of_decide_eq_true (by first | (with_reducible assumption) | assumption)
              obtain ⟨gz_, co12, eo12, gb12, gl12, cl12, HG12⟩ := Kd.R_form HO_0.out (by have h_ := spl_len ho1_; omega)
              obtain rfl : g_ = gz_ := by injection eo12 with e1_ _ _; injection e1_ with e1_; injection e1_
              clear eo12
              have GB12 := Aside0.mk gb12
              have GG12 := Aside0.mk HG12
              clear gb12 gl12 HG12
              have HMg_ := Aside0.mk (show (P0_ g_ ∨ w.heap.size ≤ g_) from (HO_0.out.1 _ rfl))
              rw [adp_] at hx262_0
              obtain ⟨hx12_0, hf12_0⟩ := sub_cell HO_0.out ho1_ (x12_1 : Int) p12 q12
              replace p12 := eq_true p12
              replace q12 := eq_true q12
              have HP13 := fun v_ p_ q_ => sub_putg HO_0.out ho1_ (x12_1 : Int) v_ p_ q_; replace HP13 := HP13 (Go.bits .and .i64 (wrap64 ((rd x0_1 x12_1) + x7_1)) 65535) (of_eq_true (by first | (with_reducible assumption) | assumption)) (of_eq_true (by first | (with_reducible assumption) | assumption))
              go_wp2_with (first | ((with_reducible refine gate_store (t := 3) (p := 37) rfl ?_); refine store_event (t := 3) (p := 37) (v := ?vo_w14) (w1 := (wr.setCell ⟨g_, o_ + (x12_1 : Int).toNat, none⟩ (.int .i64 (Go.bits .and .i64 (wrap64 ((rd x0_1 x12_1) + x7_1)) 65535)))) ?hg ?ho ?hn ?hr ?_; (case ho => rfl); (case hg => rfl); (case hn => rfl); (case hr => first | (go_simp; done) | (go_simp; rfl)); intro w14 hw; have hg : wr.grownBy w14 (some g_) := (by rw [hw]; exact HP13.2); have hp_ : Kd.R (Kd.int .i64) 3 w14 w0.heap.size (fun k_ => (P0_ k_ ∨ w.heap.size ≤ k_)) (.slice (some ⟨g_, 0, none⟩) L_.length cap_) (spl L_ o_ y265) := (by rw [hw, Ny265.out]; exact HP13.1); clear HP13; have n0_ := Aside0.mk (hp_); have n1_ := Aside0.mk ((by rw [hw]; exact below_set (HB.out) GB12.out : Below w0.heap.size w0 w14)); have n2_ := Aside0.mk (Kept.of_grown (S := (fun k_ => P0_ k_)) hg (by repeat (first | (with_reducible first | exact HK.out | apply Kept.alloc | apply Kept.drewN | apply Kept.drew) | exact HK.out)) (fun k_ e_ => (HO_0.out.1 k_ e_))); clear HO_0; clear HB; clear HK; have HO_0 := n0_; have HB := n1_; have HK := n2_; clear n0_ n1_ n2_; clear hg hw hp_))
              (try simp only [← hl0_1])
              go_roundg k1
              case measure => have := HK1.out; omega
              case rel => exact ⟨(y265), ((wrap64 ((rd x0_1 x12_1) + x7_1)) / 65536), (wrap64 (x12_1 + 1)), (by first | rfl | (simp; done) | (simp [*]; done)), (by first | rfl | (simp; done) | (simp [*]; done)), H', ⟨by have := HK1.out; omega⟩, ⟨by rw [Ny265.out, List.length_set]; (first | exact HL_0.out | (have h_ := HL_0.out; omega))⟩, ⟨by (try simp only [hl0_1]); (with_reducible repeat (first | apply Kd.R_alloc | apply Kd.R_drewN | apply Kd.R_drew)); exact HO_0.out⟩, ⟨by repeat (first | (with_reducible first | exact HK.out | apply Kept.alloc | apply Kept.drewN | apply Kept.drew) | exact HK.out)⟩, ⟨by repeat (first | (with_reducible first | exact HB.out | apply below_alloc | apply pw_below_drewN | apply below_drew1) | exact HB.out)⟩⟩
          · rw [if_neg c7] at H
            exact absurd H (by simp)
        · rw [if_neg c6] at H
          exact absurd H (by simp)
      · rw [if_neg c5] at H
        have c5b0 : decide (x12_1 < (l0.length : Int)) = false := decide_eq_false c5
        have c5b1 : decide (x12_1 < (x0_1.length : Int)) = false := decide_eq_false (by rw [← hl0_1]; exact c5)
        clear c5
        simp only [Option.some.injEq, Prod.mk.injEq] at H
        obtain ⟨rfl, rfl⟩ := H
        go_wp2
        go_ret
        first | exact ⟨by first | rfl | (simp [errW_none, errW_some] <;> rfl) | (simp [*, errW_none, errW_some] <;> rfl), HL_0.out, (by first | exact (by (with_reducible repeat (first | apply Kd.R_alloc | apply Kd.R_drewN | apply Kd.R_drew)); exact HO_0.out) | (simp only [hl0_1]; exact (by (with_reducible repeat (first | apply Kd.R_alloc | apply Kd.R_drewN | apply Kd.R_drew)); exact HO_0.out))), by repeat (first | (with_reducible first | exact HB.out | apply below_alloc | apply pw_below_drewN | apply below_drew1) | exact HB.out), by repeat (first | (with_reducible first | exact HK.out | apply Kept.alloc | apply Kept.drewN | apply Kept.drew) | exact HK.out)⟩ | exact ⟨by first | rfl | (simp [errW_none, errW_some] <;> rfl) | (simp [*, errW_none, errW_some] <;> rfl), (by first | exact (by (with_reducible repeat (first | apply Kd.R_alloc | apply Kd.R_drewN | apply Kd.R_drew)); exact HO_0.out) | (simp only [hl0_1]; exact (by (with_reducible repeat (first | apply Kd.R_alloc | apply Kd.R_drewN | apply Kd.R_drew)); exact HO_0.out))), by repeat (first | (with_reducible first | exact HB.out | apply below_alloc | apply pw_below_drewN | apply below_drew1) | exact HB.out), by repeat (first | (with_reducible first | exact HK.out | apply Kept.alloc | apply Kept.drewN | apply Kept.drew) | exact HK.out)⟩

set_option maxHeartbeats 8000000 in
set_option maxRecDepth 100000 in
theorem impl_giveBack.at_ (k : Nat) (P0_ : Nat → Prop) (g_ cap_ o_ cc_ : Nat) (L_ l0 : List Int) (A1 : Option Addr) (c1 : Nat) (l1 : List Int) (r : List Int) (w0 w : World) (hB : Below w0.heap.size w0 w) (hle_ : o_ + l0.length ≤ L_.length) (ho0 : Kd.R (Kd.int .i64) 3 w w0.heap.size P0_ (.slice (some ⟨g_, 0, none⟩) L_.length cap_) (spl L_ o_ l0)) (hr1 : ∀ W_, Kept w W_ (fun k_ => P0_ k_) → Kd.C (Kd.int .i64) W_ A1 l1.length l1) (hc1 : l1.length ≤ c1) (h : impl_giveBack.f k l0 l1 = some r) :
    Calls Try.prog 87 #[.slice (some ⟨g_, o_, none⟩) l0.length cc_, .slice A1 l1.length c1] w fun e w' => e = .returned (.tuple #[]) ∧ r.length = l0.length ∧ Kd.R (Kd.int .i64) 3 w' w0.heap.size (fun k_ => (P0_ k_ ∨ w.heap.size ≤ k_)) (.slice (some ⟨g_, 0, none⟩) L_.length cap_) (spl L_ o_ r) ∧ Below w0.heap.size w0 w' ∧ Kept w w' (fun k_ => P0_ k_) := by
  have HO0 := Aside0.mk (show Kd.R (Kd.int .i64) 3 w w0.heap.size (fun k_ => (P0_ k_ ∨ w.heap.size ≤ k_)) (.slice (some ⟨g_, 0, none⟩) L_.length cap_) (spl L_ o_ l0) from Kd.R_mono ho0 (fun k_ hk => (.inl hk)))
  have HR1 := Aside0.mk hr1
  have HC1 := Aside0.mk hc1
  clear hr1 hc1
  have HK := Aside0.mk (Kept.refl w (fun k_ => P0_ k_))
  have HW0 := Aside0.mk hB.size
  have HB := Aside0.mk hB
  clear hB
  have H : (impl_giveBack.l0 k l0 l1 0 (l0.length : Int) 0) = some r := h
  clear h
  have H' := Aside0.mk H
  clear H
  go_enter Try.func87, Try.ntmps87
  go_wp2
  go_loopg [4, 8] k (fun kq v4 v8 w' => ∃ (x0_1 : List Int) (x4_1 : Int) (x8_1 : Int), v4 = .int .i64 x4_1 ∧ v8 = .int .i64 x8_1 ∧ Aside0 (impl_giveBack.l0 kq x0_1 l1 x4_1 (l0.length : Int) x8_1 = some r) ∧ Aside0 (kq ≤ k) ∧ Aside0 (x0_1.length = l0.length) ∧ Aside0 (Kd.R (Kd.int .i64) 3 w' w0.heap.size (fun k_ => (P0_ k_ ∨ w.heap.size ≤ k_)) (.slice (some ⟨g_, 0, none⟩) L_.length cap_) (spl L_ o_ x0_1)) ∧ Aside0 (Kept w w' (fun k_ => P0_ k_)) ∧ Aside0 (Below w0.heap.size w0 w'))
  case atStart => exact ⟨(l0), (0), (0), (by first | rfl | (simp; done) | (simp [*]; done)), (by first | rfl | (simp; done) | (simp [*]; done)), H', ⟨Nat.le_refl _⟩, ⟨rfl⟩, ⟨by (with_reducible repeat (first | apply Kd.R_alloc | apply Kd.R_drewN | apply Kd.R_drew)); exact HO0.out⟩, ⟨by repeat (first | (with_reducible first | exact HK.out | apply Kept.alloc | apply Kept.drewN | apply Kept.drew) | exact HK.out)⟩, ⟨by repeat (first | (with_reducible first | exact HB.out | apply below_alloc | apply pw_below_drewN | apply below_drew1) | exact HB.out)⟩⟩
  case round =>
    clear H'
    try clear c1
    try clear p2
    obtain ⟨x0_1, x4_1, x8_1, rfl, rfl, HA, HK1, HL_0, HO_0, HK, HB⟩ := hrel
    have hl0_1 : l0.length = x0_1.length := HL_0.out.symm
    have ho1_ : o_ + x0_1.length ≤ L_.length := by rw [HL_0.out]; exact hle_
    (try simp only [hl0_1])
    cases gk with
    | zero => exact absurd HA.out (by simp [impl_giveBack.l0])
    | succ k1 =>
      have H := HA.out
      clear HA
      simp only [impl_giveBack.l0] at H
      by_cases c4 : x8_1 < (l0.length : Int)
      · rw [if_pos c4] at H
        have c4b0 : decide (x8_1 < (l0.length : Int)) = true := decide_eq_true c4
        clear c4
        by_cases c5 : 0 ≤ x8_1
        · rw [if_pos c5] at H
          have c5b0 : decide (0 ≤ x8_1) = true := decide_eq_true c5
          clear c5
          by_cases c6 : x8_1 < (x0_1.length : Int)
          · rw [if_pos c6] at H
            have c6b0 : decide (x8_1 < (x0_1.length : Int)) = true := decide_eq_true c6
            clear c6
            by_cases c7 : x8_1 < (l1.length : Int)
            · rw [if_pos c7] at H
              have c7b0 : decide (x8_1 < (l1.length : Int)) = true := decide_eq_true c7
              clear c7
              obtain ⟨y268, hy268⟩ : ∃ y_ : List Int, y_ = (x0_1.set (x8_1 : Int).toNat (Go.bits .and .i64 (wrap64 ((wrap64 (x4_1 + (rd x0_1 x8_1))) + (rd l1 x8_1))) 65535)) := ⟨_, rfl⟩
              replace H : (impl_giveBack.l0 k1 y268 l1 ((wrap64 ((wrap64 (x4_1 + (rd x0_1 x8_1))) + (rd l1 x8_1))) / 65536) (l0.length : Int) (wrap64 (x8_1 + 1))) = some r := by first | (rw [hy268]; with_reducible exact H) | (have H2_ := (Option.bind_some _ _).symm.trans H; rw [hy268]; with_reducible exact H2_) | (have H2_ := (Option.bind_some _ _).symm.trans H; with_reducible exact H2_) | with_reducible exact H | (rw [hy268]; exact H) | exact H
              have Ny268 := Aside0.mk hy268
              clear hy268
              have H' := Aside0.mk H
              clear H
              have p266 : 0 ≤ (x8_1 : Int) := of_decide_eq_true (by first | (with_reducible assumption) | assumption)
              have q266 : x8_1 < (x0_1.length : Int) := of_decide_eq_true (by first | (with_reducible assumption) | assumption)
              obtain ⟨ad266, e266, hx266_0⟩ := Kd.at_int (sub_C (by have h_ := (Kd.R_reads' HO_0.out).2.2; exact h_) ho1_) x8_1 p266 q266
              cases e266
              replace p266 := eq_true p266
              replace q266 := eq_true q266
              have p267 : 0 ≤ (x8_1 : Int) := of_decide_eq_true (by first | (with_reducible assumption) | assumption)
              have q267 : x8_1 < (l1.length : Int) := of_decide_eq_true (by first | (with_reducible assumption) | assumption)
              obtain ⟨ad267, e267, hx267_0⟩ := Kd.at_int (Kd.C_kept_now HR1.out HK.out) x8_1 p267 q267
              cases e267
              replace p267 := eq_true p267
              replace q267 := eq_true q267
              have p8 : 0 ≤ (x8_1 : Int) := of_decide_eq_true (by first | (with_reducible assumption) | assumption)
              have q8 : (x8_1 : Int) < ((x0_1.length : Int) : Int) := of_decide_eq_true (by first | (with_reducible assumption) | assumption)
              obtain ⟨gz_, co8, eo8, gb8, gl8, cl8, HG8⟩ := Kd.R_form HO_0.out (by have h_ := spl_len ho1_; omega)
              obtain rfl : g_ = gz_ := by injection eo8 with e1_ _ _; injection e1_ with e1_; injection e1_
              clear eo8
              have GB8 := Aside0.mk gb8
              have GG8 := Aside0.mk HG8
              clear gb8 gl8 HG8
              have HMg_ := Aside0.mk (show (P0_ g_ ∨ w.heap.size ≤ g_) from (HO_0.out.1 _ rfl))
              rw [adp_] at hx266_0
              obtain ⟨hx8_0, hf8_0⟩ := sub_cell HO_0.out ho1_ (x8_1 : Int) p8 q8
              replace p8 := eq_true p8
              replace q8 := eq_true q8
              have HP9 := fun v_ p_ q_ => sub_putg HO_0.out ho1_ (x8_1 : Int) v_ p_ q_; replace HP9 := HP9 (Go.bits .and .i64 (wrap64 ((wrap64 (x4_1 + (rd x0_1 x8_1))) + (rd l1 x8_1))) 65535) (of_eq_true (by first | (with_reducible assumption) | assumption)) (of_eq_true (by first | (with_reducible assumption) | assumption))
              go_wp2_with (first | ((with_reducible refine gate_store (t := 3) (p := 31) rfl ?_); refine store_event (t := 3) (p := 31) (v := ?vo_w10) (w1 := (wr.setCell ⟨g_, o_ + (x8_1 : Int).toNat, none⟩ (.int .i64 (Go.bits .and .i64 (wrap64 ((wrap64 (x4_1 + (rd x0_1 x8_1))) + (rd l1 x8_1))) 65535)))) ?hg ?ho ?hn ?hr ?_; (case ho => rfl); (case hg => rfl); (case hn => rfl); (case hr => first | (go_simp; done) | (go_simp; rfl)); intro w10 hw; have hg : wr.grownBy w10 (some g_) := (by rw [hw]; exact HP9.2); have hp_ : Kd.R (Kd.int .i64) 3 w10 w0.heap.size (fun k_ => (P0_ k_ ∨ w.heap.size ≤ k_)) (.slice (some ⟨g_, 0, none⟩) L_.length cap_) (spl L_ o_ y268) := (by rw [hw, Ny268.out]; exact HP9.1); clear HP9; have n0_ := Aside0.mk (hp_); have n1_ := Aside0.mk ((by rw [hw]; exact below_set (HB.out) GB8.out : Below w0.heap.size w0 w10)); have n2_ := Aside0.mk (Kept.of_grown (S := (fun k_ => P0_ k_)) hg (by repeat (first | (with_reducible first | exact HK.out | apply Kept.alloc | apply Kept.drewN | apply Kept.drew) | exact HK.out)) (fun k_ e_ => (HO_0.out.1 k_ e_))); clear HO_0; clear HB; clear HK; have HO_0 := n0_; have HB := n1_; have HK := n2_; clear n0_ n1_ n2_; clear hg hw hp_))
              (try simp only [← hl0_1])
              go_roundg k1
              case measure => have := HK1.out; omega
              case rel => exact ⟨(y268), ((wrap64 ((wrap64 (x4_1 + (rd x0_1 x8_1))) + (rd l1 x8_1))) / 65536), (wrap64 (x8_1 + 1)), (by first | rfl | (simp; done) | (simp [*]; done)), (by first | rfl | (simp; done) | (simp [*]; done)), H', ⟨by have := HK1.out; omega⟩, ⟨by rw [Ny268.out, List.length_set]; (first | exact HL_0.out | (have h_ := HL_0.out; omega))⟩, ⟨by (try simp only [hl0_1]); (with_reducible repeat (first | apply Kd.R_alloc | apply Kd.R_drewN | apply Kd.R_drew)); exact HO_0.out⟩, ⟨by repeat (first | (with_reducible first | exact HK.out | apply Kept.alloc | apply Kept.drewN | apply Kept.drew) | exact HK.out)⟩, ⟨by repeat (first | (with_reducible first | exact HB.out | apply below_alloc | apply pw_below_drewN | apply below_drew1) | exact HB.out)⟩⟩
            · rw [if_neg c7] at H
              have c7b0 : decide (x8_1 < (l1.length : Int)) = false := decide_eq_false c7
              clear c7
              obtain ⟨y269, hy269⟩ : ∃ y_ : List Int, y_ = (x0_1.set (x8_1 : Int).toNat (Go.bits .and .i64 (wrap64 (x4_1 + (rd x0_1 x8_1))) 65535)) := ⟨_, rfl⟩
              replace H : (impl_giveBack.l0 k1 y269 l1 ((wrap64 (x4_1 + (rd x0_1 x8_1))) / 65536) (l0.length : Int) (wrap64 (x8_1 + 1))) = some r := by first | (rw [hy269]; with_reducible exact H) | (have H2_ := (Option.bind_some _ _).symm.trans H; rw [hy269]; with_reducible exact H2_) | (have H2_ := (Option.bind_some _ _).symm.trans H; with_reducible exact H2_) | with_reducible exact H | (rw [hy269]; exact H) | exact H
              have Ny269 := Aside0.mk hy269
              clear hy269
              have H' := Aside0.mk H
              clear H
              have p266 : 0 ≤ (x8_1 : Int) := of_decide_eq_true (by first | (with_reducible assumption) | assumption)
              have q266 : x8_1 < (x0_1.length : Int) := of_decide_eq_true (by first | (with_reducible assumption) | assumption)
              obtain ⟨ad266, e266, hx266_0⟩ := Kd.at_int (sub_C (by have h_ := (Kd.R_reads' HO_0.out).2.2; exact h_) ho1_) x8_1 p266 q266
              cases e266
              replace p266 := eq_true p266
              replace q266 := eq_true q266
              have p11 : 0 ≤ (x8_1 : Int) := of_decide_eq_true (by first | (with_reducible assumption) | assumption)
              have q11 : (x8_1 : Int) < ((x0_1.length : Int) : Int) := of_decide_eq_true (by first | (with_reducible assumption) | assumption)
              obtain ⟨gz_, co11, eo11, gb11, gl11, cl11, HG11⟩ := Kd.R_form HO_0.out (by have h_ := spl_len ho1_; omega)
              obtain rfl : g_ = gz_ := by injection eo11 with e1_ _ _; injection e1_ with e1_; injection e1_
              clear eo11
              have GB11 := Aside0.mk gb11
              have GG11 := Aside0.mk HG11
              clear gb11 gl11 HG11
              have HMg_ := Aside0.mk (show (P0_ g_ ∨ w.heap.size ≤ g_) from (HO_0.out.1 _ rfl))
              rw [adp_] at hx266_0
              obtain ⟨hx11_0, hf11_0⟩ := sub_cell HO_0.out ho1_ (x8_1 : Int) p11 q11
              replace p11 := eq_true p11
              replace q11 := eq_true q11
              have HP12 := fun v_ p_ q_ => sub_putg HO_0.out ho1_ (x8_1 : Int) v_ p_ q_; replace HP12 := HP12 (Go.bits .and .i64 (wrap64 (x4_1 + (rd x0_1 x8_1))) 65535) (of_eq_true (by first | (with_reducible assumption) | assumption)) (of_eq_true (by first | (with_reducible assumption) | assumption))
              go_wp2_with (first | ((with_reducible refine gate_store (t := 3) (p := 31) rfl ?_); refine store_event (t := 3) (p := 31) (v := ?vo_w13) (w1 := (wr.setCell ⟨g_, o_ + (x8_1 : Int).toNat, none⟩ (.int .i64 (Go.bits .and .i64 (wrap64 (x4_1 + (rd x0_1 x8_1))) 65535)))) ?hg ?ho ?hn ?hr ?_; (case ho => rfl); (case hg => rfl); (case hn => rfl); (case hr => first | (go_simp; done) | (go_simp; rfl)); intro w13 hw; have hg : wr.grownBy w13 (some g_) := (by rw [hw]; exact HP12.2); have hp_ : Kd.R (Kd.int .i64) 3 w13 w0.heap.size (fun k_ => (P0_ k_ ∨ w.heap.size ≤ k_)) (.slice (some ⟨g_, 0, none⟩) L_.length cap_) (spl L_ o_ y269) := (by rw [hw, Ny269.out]; exact HP12.1); clear HP12; have n0_ := Aside0.mk (hp_); have n1_ := Aside0.mk ((by rw [hw]; exact below_set (HB.out) GB11.out : Below w0.heap.size w0 w13)); have n2_ := Aside0.mk (Kept.of_grown (S := (fun k_ => P0_ k_)) hg (by repeat (first | (with_reducible first | exact HK.out | apply Kept.alloc | apply Kept.drewN | apply Kept.drew) | exact HK.out)) (fun k_ e_ => (HO_0.out.1 k_ e_))); clear HO_0; clear HB; clear HK; have HO_0 := n0_; have HB := n1_; have HK := n2_; clear n0_ n1_ n2_; clear hg hw hp_))
              (try simp only [← hl0_1])
              go_roundg k1
              case measure => have := HK1.out; omega
              case rel => exact ⟨(y269), ((wrap64 (x4_1 + (rd x0_1 x8_1))) / 65536), (wrap64 (x8_1 + 1)), (by first | rfl | (simp; done) | (simp [*]; done)), (by first | rfl | (simp; done) | (simp [*]; done)), H', ⟨by have := HK1.out; omega⟩, ⟨by rw [Ny269.out, List.length_set]; (first | exact HL_0.out | (have h_ := HL_0.out; omega))⟩, ⟨by (try simp only [hl0_1]); (with_reducible repeat (first | apply Kd.R_alloc | apply Kd.R_drewN | apply Kd.R_drew)); exact HO_0.out⟩, ⟨by repeat (first | (with_reducible first | exact HK.out | apply Kept.alloc | apply Kept.drewN | apply Kept.drew) | exact HK.out)⟩, ⟨by repeat (first | (with_reducible first | exact HB.out | apply below_alloc | apply pw_below_drewN | apply below_drew1) | exact HB.out)⟩⟩
          · rw [if_neg c6] at H
            exact absurd H (by simp)
        · rw [if_neg c5] at H
          exact absurd H (by simp)
      · rw [if_neg c4] at H
        have c4b0 : decide (x8_1 < (l0.length : Int)) = false := decide_eq_false c4
        have c4b1 : decide (x8_1 < (x0_1.length : Int)) = false := decide_eq_false (by rw [← hl0_1]; exact c4)
        clear c4
        obtain rfl := Option.some.inj H
        go_wp2
        first | go_end0 | ((try simp only [Exit.inBlock, Exit.then]); refine bodyPost_ret (results_none rfl _ _ _) rfl ?_)
        first | exact ⟨by first | rfl | (simp [errW_none, errW_some] <;> rfl) | (simp [*, errW_none, errW_some] <;> rfl), HL_0.out, (by first | exact (by (with_reducible repeat (first | apply Kd.R_alloc | apply Kd.R_drewN | apply Kd.R_drew)); exact HO_0.out) | (simp only [hl0_1]; exact (by (with_reducible repeat (first | apply Kd.R_alloc | apply Kd.R_drewN | apply Kd.R_drew)); exact HO_0.out))), by repeat (first | (with_reducible first | exact HB.out | apply below_alloc | apply pw_below_drewN | apply below_drew1) | exact HB.out), by repeat (first | (with_reducible first | exact HK.out | apply Kept.alloc | apply Kept.drewN | apply Kept.drew) | exact HK.out)⟩ | exact ⟨by first | rfl | (simp [errW_none, errW_some] <;> rfl) | (simp [*, errW_none, errW_some] <;> rfl), (by first | exact (by (with_reducible repeat (first | apply Kd.R_alloc | apply Kd.R_drewN | apply Kd.R_drew)); exact HO_0.out) | (simp only [hl0_1]; exact (by (with_reducible repeat (first | apply Kd.R_alloc | apply Kd.R_drewN | apply Kd.R_drew)); exact HO_0.out))), by repeat (first | (with_reducible first | exact HB.out | apply below_alloc | apply pw_below_drewN | apply below_drew1) | exact HB.out), by repeat (first | (with_reducible first | exact HK.out | apply Kept.alloc | apply Kept.drewN | apply Kept.drew) | exact HK.out)⟩

theorem own_any (A : Option Addr) (n c n' c' : Nat) : (Value.slice A n c).ownBlock = (Value.slice A n' c').ownBlock := by cases A <;> rfl
theorem part_R {W : World} {base : Nat} {P : Nat → Prop} {v : Value} {L L' : List Int} (h : Kd.R (Kd.int .i64) 3 W base P v L) (e : L' = L) : Kd.R (Kd.int .i64) 3 W base P v L' := by rw [e]; exact h
theorem part_C {W : World} {base g o cap : Nat} {P : Nat → Prop} {Ao : Option Addr} {ad : Addr} {L x : List Int} (h : Kd.R (Kd.int .i64) 3 W base P (.slice Ao L.length cap) L) (hA : Ao = some ⟨g, 0, none⟩) (hd : ad = ⟨g, o, none⟩) (e : spl L o x = L) (ho : o + x.length ≤ L.length) : Kd.C (Kd.int .i64) W (some ad) x.length x := by
  subst hA hd
  refine sub_C (L := L) ?_ ho
  rw [e]
  exact (Kd.R_reads' h).2.2
theorem impl_takeAway.ata (k : Nat) (P0_ : Nat → Prop) (Ao : Option Addr) (ad : Addr) (g_ cap_ o_ cc_ m_ : Nat) (hAo : Ao = some ⟨g_, 0, none⟩) (had : ad = ⟨g_, o_, none⟩) (L_ l0 : List Int) (hm_ : l0.length = m_) (A1 : Option Addr) (c1 : Nat) (l1 : List Int) (a2 : Int) (r1 : Bool) (r2 : List Int) (w0 w : World) (hB : Below w0.heap.size w0 w) (hle_ : o_ + l0.length ≤ L_.length)
    (ho0 : Kd.R (Kd.int .i64) 3 w w0.heap.size P0_ (.slice Ao L_.length cap_) (spl L_ o_ l0)) (hr1 : ∀ W_, Kept w W_ (fun k_ => P0_ k_) → Kd.C (Kd.int .i64) W_ A1 l1.length l1) (hc1 : l1.length ≤ c1) (h : impl_takeAway.f k l0 l1 a2 = some (r1, r2)) :
    Calls Try.prog 86 #[.slice (some ad) m_ cc_, .slice A1 l1.length c1, .int .i64 a2] w fun e w' => e = .returned (.bool r1) ∧ r2.length = l0.length ∧ Kd.R (Kd.int .i64) 3 w' w0.heap.size (fun k_ => (P0_ k_ ∨ w.heap.size ≤ k_)) (.slice Ao L_.length cap_) (spl L_ o_ r2) ∧ Below w0.heap.size w0 w' ∧ Kept w w' (fun k_ => P0_ k_) := by
  subst hAo had hm_
  exact impl_takeAway.at_ k P0_ g_ cap_ o_ cc_ L_ l0 A1 c1 l1 a2 r1 r2 w0 w hB hle_ ho0 hr1 hc1 h
theorem impl_giveBack.ata (k : Nat) (P0_ : Nat → Prop) (Ao : Option Addr) (ad : Addr) (g_ cap_ o_ cc_ m_ : Nat) (hAo : Ao = some ⟨g_, 0, none⟩) (had : ad = ⟨g_, o_, none⟩) (L_ l0 : List Int) (hm_ : l0.length = m_) (A1 : Option Addr) (c1 : Nat) (l1 : List Int) (r : List Int) (w0 w : World) (hB : Below w0.heap.size w0 w) (hle_ : o_ + l0.length ≤ L_.length)
    (ho0 : Kd.R (Kd.int .i64) 3 w w0.heap.size P0_ (.slice Ao L_.length cap_) (spl L_ o_ l0)) (hr1 : ∀ W_, Kept w W_ (fun k_ => P0_ k_) → Kd.C (Kd.int .i64) W_ A1 l1.length l1) (hc1 : l1.length ≤ c1) (h : impl_giveBack.f k l0 l1 = some r) :
    Calls Try.prog 87 #[.slice (some ad) m_ cc_, .slice A1 l1.length c1] w fun e w' => e = .returned (.tuple #[]) ∧ r.length = l0.length ∧ Kd.R (Kd.int .i64) 3 w' w0.heap.size (fun k_ => (P0_ k_ ∨ w.heap.size ≤ k_)) (.slice Ao L_.length cap_) (spl L_ o_ r) ∧ Below w0.heap.size w0 w' ∧ Kept w w' (fun k_ => P0_ k_) := by
  subst hAo had hm_
  exact impl_giveBack.at_ k P0_ g_ cap_ o_ cc_ L_ l0 A1 c1 l1 r w0 w hB hle_ ho0 hr1 hc1 h
theorem cut_R {W : World} {base n c : Nat} {P : Nat → Prop} {A : Option Addr} {L y : List Int} {m : Nat} (h : Kd.R (Kd.int .i64) 3 W base P (.slice A n c) L) (hy : y = L.take m) (hm : m ≤ L.length) : Kd.R (Kd.int .i64) 3 W base P (.slice A y.length c) y := by
  have h1 : y.length = m := by rw [hy, List.length_take]; omega
  rw [h1, hy]
  exact Kd.R_take h hm
def far9 (A B : Option Addr) (k : Nat) : Prop := some k ≠ (Value.slice A 0 0).ownBlock ∧ some k ≠ (Value.slice B 0 0).ownBlock
theorem far9_mk {A B : Option Addr} {k : Nat} (n c m d : Nat) (h1 : some k ≠ (Value.slice A n c).ownBlock) (h2 : some k ≠ (Value.slice B m d).ownBlock) : far9 A B k := ⟨by rw [own_any A 0 0 n c]; exact h1, by rw [own_any B 0 0 m d]; exact h2⟩
theorem far9_1 {A B : Option Addr} {k : Nat} (h : far9 A B k) (n c : Nat) : some k ≠ (Value.slice A n c).ownBlock := by rw [own_any A n c 0 0]; exact h.1
theorem far9_2 {A B : Option Addr} {k : Nat} (h : far9 A B k) (n c : Nat) : some k ≠ (Value.slice B n c).ownBlock := by rw [own_any B n c 0 0]; exact h.2
theorem cut_C {W : World} {base n c : Nat} {P : Nat → Prop} {A : Option Addr} {L y : List Int} {m : Nat} (h : Kd.R (Kd.int .i64) 3 W base P (.slice A n c) L) (hy : y = L.take m) (hm : m ≤ L.length) : Kd.C (Kd.int .i64) W A y.length y := by
 have h2 := cut_R h hy hm
 exact (Kd.R_reads' h2).2.2
theorem cut_kept {W : World} {base n c : Nat} {P S : Nat → Prop} {A : Option Addr} {L y : List Int} {m : Nat} (h : Kd.R (Kd.int .i64) 3 W base P (.slice A n c) L) (hok : ∀ k, P k → ¬ S k) (hy : y = L.take m) (hm : m ≤ L.length) : ∀ W', Kept W W' S → Kd.C (Kd.int .i64) W' A y.length y := fun W' hk =>
 cut_C (Kd.R_kept h hk hok) hy hm

/-- A part of a row. -/
def pt_ (L : List Int) (i j : Int) : List Int := (L.drop i.toNat).take (j.toNat - i.toNat)
mutual
def impl_natDiv.l0 : Nat → Int → Int → List Int → List Int → List Int → Int → Option (List Int × List Int)
 | 0, _, _, _, _, _, _ => none
 | k + 1, x6, x9, x10, x11, x12, x13 => if x13 ≥ 0 then (if x13 ≤ (wrap64 ((wrap64 (x13 + x6)) + 1)) then (if (wrap64 ((wrap64 (x13 + x6)) + 1)) ≤ (x10.length : Int) then (if 0 ≤ x6 then (if x6 < ((pt_ x10 x13 (wrap64 ((wrap64 (x13 + x6)) + 1))).length : Int) then (if 0 ≤ (wrap64 (x6 - 1)) then (if (wrap64 (x6 - 1)) < ((pt_ x10 x13 (wrap64 ((wrap64 (x13 + x6)) + 1))).length : Int) then (if (wrap64 (x6 - 1)) < (x11.length : Int) then (if (rd x11 (wrap64 (x6 - 1))) = 0 then (none) else (impl_natDiv.l1 k x6 x9 x10 (pt_ x10 x13 (wrap64 ((wrap64 (x13 + x6)) + 1))) x11 x12 x13 (wrap64 ((wrap64 ((rd (pt_ x10 x13 (wrap64 ((wrap64 (x13 + x6)) + 1))) x6) * 65536)) + (rd (pt_ x10 x13 (wrap64 ((wrap64 (x13 + x6)) + 1))) (wrap64 (x6 - 1))))) (mn 65535 (wrap64 (Int.tdiv (wrap64 ((wrap64 ((rd (pt_ x10 x13 (wrap64 ((wrap64 (x13 + x6)) + 1))) x6) * 65536)) + (rd (pt_ x10 x13 (wrap64 ((wrap64 (x13 + x6)) + 1))) (wrap64 (x6 - 1))))) (rd x11 (wrap64 (x6 - 1)))))))) else (none)) else (none)) else (none)) else (none)) else (none)) else (none)) else (none)) else (if 0 ≤ x6 then (if x6 ≤ (x10.length : Int) then ((impl_trimmed.f k (x10.take (x6 : Int).toNat)).bind fun t300 => (if 0 ≤ x9 then ((impl_byDigit.f k t300 (shl .i64 1 x9)).bind fun bt301 => ((impl_trimmed.f k x12).bind fun t305 => (some (t305, bt301.1)))) else (none))) else (none)) else (none))
def impl_natDiv.l1 : Nat → Int → Int → List Int → List Int → List Int → List Int → Int → Int → Int → Option (List Int × List Int)
 | 0, _, _, _, _, _, _, _, _, _ => none
 | k + 1, x6, x9, x10, xp, x11, x12, x13, x15, x16 => if 0 ≤ (wrap64 (x6 - 2)) then (if (wrap64 (x6 - 2)) < (x11.length : Int) then (if 0 ≤ (wrap64 (x6 - 1)) then (if (wrap64 (x6 - 1)) < (x11.length : Int) then (if (wrap64 (x6 - 2)) < (xp.length : Int) then (if (wrap64 (x16 * (rd x11 (wrap64 (x6 - 2))))) > (wrap64 ((wrap64 ((wrap64 (x15 - (wrap64 (x16 * (rd x11 (wrap64 (x6 - 1))))))) * 65536)) + (rd xp (wrap64 (x6 - 2))))) then (impl_natDiv.l1 k x6 x9 x10 xp x11 x12 x13 x15 (wrap64 (x16 - 1))) else ((impl_takeAway.f k xp x11 x16).bind fun bt314 => (if bt314.1 = true then ((impl_giveBack.f k bt314.2 x11).bind fun t316 => (if 0 ≤ x13 then (if x13 < (x12.length : Int) then (impl_natDiv.l0 k x6 x9 (spl x10 x13.toNat t316) x11 (x12.set (x13 : Int).toNat (wrap64 (x16 - 1))) (wrap64 (x13 - 1))) else (none)) else (none))) else (if 0 ≤ x13 then (if x13 < (x12.length : Int) then (impl_natDiv.l0 k x6 x9 (spl x10 x13.toNat bt314.2) x11 (x12.set (x13 : Int).toNat x16) (wrap64 (x13 - 1))) else (none)) else (none))))) else (none)) else (none)) else (none)) else (none)) else (none)
end
def impl_natDiv.f (k : Nat) (l0 : List Int) (l1 : List Int) : Option (List Int × List Int) := (impl_natCompare.f k l0 l1).bind fun t270 => (if t270 < 0 then ((slices_Clone_int.f l0).bind fun t271 => (some (([] : List Int), t271))) else (if (l1.length : Int) = 1 then (if 0 < (l1.length : Int) then ((impl_byDigit.f k l0 (rd l1 0)).bind fun bt275 => ((impl_natOf.f k bt275.2).bind fun t279 => (some (bt275.1, t279)))) else (none)) else (if 0 ≤ (wrap64 ((l1.length : Int) - 1)) then (if (wrap64 ((l1.length : Int) - 1)) < (l1.length : Int) then ((bits_Len.f k (IntKind.u64.wrap (rd l1 (wrap64 ((l1.length : Int) - 1))))).bind fun t283 => ((impl_shifted.f k l0 (wrap64 (16 - t283))).bind fun t284 => ((impl_shifted.f k l1 (wrap64 (16 - t283))).bind fun t287 => (if 0 ≤ (l1.length : Int) then (if (l1.length : Int) ≤ (t287.length : Int) then (if 0 ≤ (wrap64 ((t284.length : Int) - (l1.length : Int))) then (if (wrap64 ((t284.length : Int) - (l1.length : Int)) : Int).toNat ≤ 35184372088832 then ((some (List.replicate (wrap64 ((t284.length : Int) - (l1.length : Int)) : Int).toNat 0 : List Int)).bind fun y294 => (impl_natDiv.l0 k (l1.length : Int) (wrap64 (16 - t283)) t284 (t287.take ((l1.length : Int) : Int).toNat) y294 (wrap64 ((y294.length : Int) - 1)))) else (none)) else (none)) else (none)) else (none))))) else (none)) else (none))))
theorem impl_natDiv.mono_l : ∀ k, (∀ y0 y1 y2 y3 y4 y5, LeO (impl_natDiv.l0 k y0 y1 y2 y3 y4 y5) (impl_natDiv.l0 (k + 1) y0 y1 y2 y3 y4 y5)) ∧ (∀ y0 y1 y2 y3 y4 y5 y6 y7 y8, LeO (impl_natDiv.l1 k y0 y1 y2 y3 y4 y5 y6 y7 y8) (impl_natDiv.l1 (k + 1) y0 y1 y2 y3 y4 y5 y6 y7 y8))
 | 0 => ⟨fun _ _ _ _ _ _ r h => by simp [impl_natDiv.l0] at h, fun _ _ _ _ _ _ _ _ _ r h => by simp [impl_natDiv.l1] at h⟩
 | k + 1 => by
  obtain ⟨ih0, ih1⟩ := impl_natDiv.mono_l k
  refine ⟨?_, ?_⟩
  ·
   intro y0 y1 y2 y3 y4 y5
   unfold impl_natDiv.l0
   repeat' first
   | (with_reducible exact ih0 _ _ _ _ _ _)
   | (with_reducible exact ih1 _ _ _ _ _ _ _ _ _)
   | (with_reducible exact bits_Len.mono _ _)
   | (with_reducible exact impl_byDigit.mono _ _ _)
   | (with_reducible exact impl_giveBack.mono _ _ _)
   | (with_reducible exact impl_natCompare.mono _ _ _)
   | (with_reducible exact impl_natOf.mono _ _)
   | (with_reducible exact impl_shifted.mono _ _ _)
   | (with_reducible exact impl_takeAway.mono _ _ _ _)
   | (with_reducible exact impl_trimmed.mono _ _)
   | (with_reducible exact LeO.refl _)
   | (with_reducible exact LeO.none _)
   | (with_reducible refine LeO.ite ?_ ?_)
   | (with_reducible refine LeO.bind ?_ (fun _ => ?_))
   | exact ih0 _ _ _ _ _ _
   | exact ih1 _ _ _ _ _ _ _ _ _
   | exact bits_Len.mono _ _
   | exact impl_byDigit.mono _ _ _
   | exact impl_giveBack.mono _ _ _
   | exact impl_natCompare.mono _ _ _
   | exact impl_natOf.mono _ _
   | exact impl_shifted.mono _ _ _
   | exact impl_takeAway.mono _ _ _ _
   | exact impl_trimmed.mono _ _
   | exact LeO.none _
   | refine LeO.ite ?_ ?_
   | refine LeO.bind ?_ (fun _ => ?_)
  ·
   intro y0 y1 y2 y3 y4 y5 y6 y7 y8
   unfold impl_natDiv.l1
   repeat' first
   | (with_reducible exact ih0 _ _ _ _ _ _)
   | (with_reducible exact ih1 _ _ _ _ _ _ _ _ _)
   | (with_reducible exact bits_Len.mono _ _)
   | (with_reducible exact impl_byDigit.mono _ _ _)
   | (with_reducible exact impl_giveBack.mono _ _ _)
   | (with_reducible exact impl_natCompare.mono _ _ _)
   | (with_reducible exact impl_natOf.mono _ _)
   | (with_reducible exact impl_shifted.mono _ _ _)
   | (with_reducible exact impl_takeAway.mono _ _ _ _)
   | (with_reducible exact impl_trimmed.mono _ _)
   | (with_reducible exact LeO.refl _)
   | (with_reducible exact LeO.none _)
   | (with_reducible refine LeO.ite ?_ ?_)
   | (with_reducible refine LeO.bind ?_ (fun _ => ?_))
   | exact ih0 _ _ _ _ _ _
   | exact ih1 _ _ _ _ _ _ _ _ _
   | exact bits_Len.mono _ _
   | exact impl_byDigit.mono _ _ _
   | exact impl_giveBack.mono _ _ _
   | exact impl_natCompare.mono _ _ _
   | exact impl_natOf.mono _ _
   | exact impl_shifted.mono _ _ _
   | exact impl_takeAway.mono _ _ _ _
   | exact impl_trimmed.mono _ _
   | exact LeO.none _
   | refine LeO.ite ?_ ?_
   | refine LeO.bind ?_ (fun _ => ?_)
theorem impl_natDiv.mono : ∀ a0 a1 k, LeO (impl_natDiv.f k a0 a1) (impl_natDiv.f (k + 1) a0 a1) := by
 intro a0 a1 k; obtain ⟨ih0, ih1⟩ := impl_natDiv.mono_l k
 unfold impl_natDiv.f
 repeat' first
   | (with_reducible exact ih0 _ _ _ _ _ _)
   | (with_reducible exact ih1 _ _ _ _ _ _ _ _ _)
   | (with_reducible exact bits_Len.mono _ _)
   | (with_reducible exact impl_byDigit.mono _ _ _)
   | (with_reducible exact impl_giveBack.mono _ _ _)
   | (with_reducible exact impl_natCompare.mono _ _ _)
   | (with_reducible exact impl_natOf.mono _ _)
   | (with_reducible exact impl_shifted.mono _ _ _)
   | (with_reducible exact impl_takeAway.mono _ _ _ _)
   | (with_reducible exact impl_trimmed.mono _ _)
   | (with_reducible exact LeO.refl _)
   | (with_reducible exact LeO.none _)
   | (with_reducible refine LeO.ite ?_ ?_)
   | (with_reducible refine LeO.bind ?_ (fun _ => ?_))
   | exact ih0 _ _ _ _ _ _
   | exact ih1 _ _ _ _ _ _ _ _ _
   | exact bits_Len.mono _ _
   | exact impl_byDigit.mono _ _ _
   | exact impl_giveBack.mono _ _ _
   | exact impl_natCompare.mono _ _ _
   | exact impl_natOf.mono _ _
   | exact impl_shifted.mono _ _ _
   | exact impl_takeAway.mono _ _ _ _
   | exact impl_trimmed.mono _ _
   | exact LeO.none _
   | refine LeO.ite ?_ ?_
   | refine LeO.bind ?_ (fun _ => ?_)
def impl_natDiv.T8 : Bool × List (List Nat × List Nat) := (true, [([], []), ([], []), ([0, 1], [0, 1]), ([], []), ([], []), ([3, 4, 2], [3, 4]), ([], []), ([5, 6], [5, 6]), ([2, 5, 0, 1, 2], [2]), ([7, 8, 0, 1, 2, 3, 4, 5, 6, 7, 8], [7])])
def impl_natDiv.B8 : List Nat := [0, 0, 3, 0, 0, 31, 0, 127, 63, 511]
theorem impl_natDiv.tab8 : rtab .any (opsOf Try.f45 8) = impl_natDiv.T8 := by kernel_rfl
theorem impl_natDiv.bits8 : waitsOk impl_natDiv.T8.2 impl_natDiv.B8 = true := by kernel_rfl
def impl_natDiv.T14 : Bool × List (List Nat × List Nat) := (true, [([], []), ([], []), ([0, 1], [0, 1]), ([2], [2]), ([3], [3]), ([], []), ([], []), ([6], [6]), ([5, 7], [5, 7]), ([8], [8]), ([4, 9], [4, 9]), ([10, 0, 1, 2, 3, 4, 5, 6, 7, 8, 9, 10], [10])])
def impl_natDiv.B14 : List Nat := [0, 0, 3, 7, 15, 0, 0, 64, 224, 480, 1023, 2047]
theorem impl_natDiv.tab14 : rtab .any (opsOf Try.f45 14) = impl_natDiv.T14 := by kernel_rfl
theorem impl_natDiv.bits14 : waitsOk impl_natDiv.T14.2 impl_natDiv.B14 = true := by kernel_rfl
def impl_natDiv.T16 : Bool × List (List Nat × List Nat) := (true, [([], []), ([], []), ([], []), ([2], [2]), ([1, 3], [1, 3]), ([4], [4]), ([0, 5], [0, 5]), ([], []), ([], []), ([], []), ([], []), ([10], [10]), ([9, 11], [9, 11]), ([12], [12]), ([8, 13], [8, 13]), ([7, 14], [7, 14]), ([15], [15]), ([], []), ([], []), ([18], [18]), ([17, 19], [17, 19]), ([20], [20]), ([16, 21], [16, 21]), ([6, 22], [6, 22])])
def impl_natDiv.B16 : List Nat := [0, 0, 0, 4, 14, 30, 63, 0, 0, 0, 0, 1024, 3584, 7680, 16128, 32640, 65408, 0, 0, 262144, 917504, 1966080, 4194176, 8388607]
theorem impl_natDiv.tab16 : rtab .any (opsOf Try.f45 16) = impl_natDiv.T16 := by kernel_rfl
theorem impl_natDiv.bits16 : waitsOk impl_natDiv.T16.2 impl_natDiv.B16 = true := by kernel_rfl
def impl_natDiv.T22 : Bool × List (List Nat × List Nat) := (true, [([], []), ([], []), ([0, 1], [0, 1]), ([2], [2]), ([], []), ([4], [4]), ([3, 5, 3], [3, 5]), ([6], [6]), ([7], [7]), ([7], [7]), ([8, 6, 0, 1, 2, 3, 4, 5, 6, 7, 8], [8]), ([9, 10, 0, 1, 2, 3, 4, 5, 6, 7, 8, 9, 10], [9])])
def impl_natDiv.B22 : List Nat := [0, 0, 3, 7, 0, 16, 63, 127, 255, 255, 511, 2047]
theorem impl_natDiv.tab22 : rtab .any (opsOf Try.f45 22) = impl_natDiv.T22 := by kernel_rfl
theorem impl_natDiv.bits22 : waitsOk impl_natDiv.T22.2 impl_natDiv.B22 = true := by kernel_rfl
set_option maxHeartbeats 8000000 in
set_option maxRecDepth 100000 in
theorem impl_natDiv.calls (k : Nat) (A0 : Option Addr) (c0 : Nat) (l0 : List Int) (A1 : Option Addr) (c1 : Nat) (l1 : List Int) (r1 : List Int) (r2 : List Int) (w : World) (hr0 : Kd.C (Kd.int .i64) w A0 l0.length l0) (hc0 : l0.length ≤ c0) (hr1 : Kd.C (Kd.int .i64) w A1 l1.length l1) (hc1 : l1.length ≤ c1) (h : impl_natDiv.f k l0 l1 = some (r1, r2)) :
  Calls Try.prog 45 #[.slice A0 l0.length c0, .slice A1 l1.length c1] w fun e w' => ∃ v0_ v1_ : Value, e = .returned (.tuple #[v0_, v1_]) ∧ Kd.R (Kd.int .i64) 3 w' w.heap.size (fun k_ => some k_ ≠ (v1_ : Value).ownBlock) v0_ r1 ∧ Kd.R (Kd.int .i64) 3 w' w.heap.size (fun k_ => some k_ ≠ (v0_ : Value).ownBlock) v1_ r2 ∧ Below w.heap.size w w' := by
 have HR0 := Aside0.mk hr0; have HC0 := Aside0.mk hc0; clear hr0 hc0; have HR1 := Aside0.mk hr1; have HC1 := Aside0.mk hc1; clear hr1 hc1; have HB := Aside0.mk (Below.refl w.heap.size w)
 have H : ((impl_natCompare.f k l0 l1).bind fun t270 => (if t270 < 0 then ((slices_Clone_int.f l0).bind fun t271 => (some (([] : List Int), t271))) else (if (l1.length : Int) = 1 then (if 0 < (l1.length : Int) then ((impl_byDigit.f k l0 (rd l1 0)).bind fun bt275 => ((impl_natOf.f k bt275.2).bind fun t279 => (some (bt275.1, t279)))) else (none)) else (if 0 ≤ (wrap64 ((l1.length : Int) - 1)) then (if (wrap64 ((l1.length : Int) - 1)) < (l1.length : Int) then ((bits_Len.f k (IntKind.u64.wrap (rd l1 (wrap64 ((l1.length : Int) - 1))))).bind fun t283 => ((impl_shifted.f k l0 (wrap64 (16 - t283))).bind fun t284 => ((impl_shifted.f k l1 (wrap64 (16 - t283))).bind fun t287 => (if 0 ≤ (l1.length : Int) then (if (l1.length : Int) ≤ (t287.length : Int) then (if 0 ≤ (wrap64 ((t284.length : Int) - (l1.length : Int))) then (if (wrap64 ((t284.length : Int) - (l1.length : Int)) : Int).toNat ≤ 35184372088832 then ((some (List.replicate (wrap64 ((t284.length : Int) - (l1.length : Int)) : Int).toNat 0 : List Int)).bind fun y294 => (impl_natDiv.l0 k (l1.length : Int) (wrap64 (16 - t283)) t284 (t287.take ((l1.length : Int) : Int).toNat) y294 (wrap64 ((y294.length : Int) - 1)))) else (none)) else (none)) else (none)) else (none))))) else (none)) else (none))))) = some (r1, r2) := h
 clear h; obtain ⟨t270, A30, H⟩ := pb_ H
 have A3 := Aside0.mk A30; clear A30
 by_cases c4 : t270 < 0
 ·
  rw [if_pos c4] at H
  have c4b0 : decide (t270 < 0) = true := decide_eq_true c4
  clear c4; obtain ⟨t271, A50, H⟩ := pb_ H
  have A5 := Aside0.mk A50; clear A50
  simp only [Option.some.injEq, Prod.mk.injEq] at H
  obtain ⟨rfl, rfl⟩ := H
  go_enter Try.func45, Try.ntmps45
  go_wp2_with (first | ((with_reducible refine gate_callee (f := 76) rfl ?_); refine gl_ 24 rfl rfl Try.func76 #[.slice A0 l0.length c0, .slice A1 l1.length c1] rfl ?_; (with_reducible refine (impl_natCompare.calls k _ _ l0 _ _ l1 t270 _ ?side1 ?side2 ?side3 ?side4 A3.out).mono ?_); (case side1 => repeat (first | exact HR0.out | (with_reducible refine Kd.C_alloc ?_ _) | (with_reducible refine Kd.C_drewN ?_ _) | (with_reducible refine Kd.C_drew ?_))); (case side2 => exact HC0.out); (case side3 => repeat (first | exact HR1.out | (with_reducible refine Kd.C_alloc ?_ _) | (with_reducible refine Kd.C_drewN ?_ _) | (with_reducible refine Kd.C_drew ?_))); (case side4 => exact HC1.out); rintro e w' ⟨rfl, ⟨nd, rfl⟩⟩; refine ⟨_, rfl, ?_⟩) | ((with_reducible refine gate_callee (f := 82) rfl ?_); refine gl_ 27 rfl rfl Try.func82 #[.slice A0 l0.length c0] rfl ?_; (with_reducible refine (slices_Clone_int.calls _ _ l0 t271 _ ?side1 ?side2 A5.out).mono ?_); (case side1 => repeat (first | exact HR0.out | (with_reducible refine Kd.C_alloc ?_ _) | (with_reducible refine Kd.C_drewN ?_ _) | (with_reducible refine Kd.C_drew ?_))); (case side2 => exact HC0.out); rintro e w6 ⟨v272, rfl, ho0, hb⟩; refine ⟨_, rfl, ?_⟩; have HO273 := Aside0.mk (Kd.R_lower ho0 (below_size (bw_ HB))); replace HB := bs_ HB hb; (try clear hb); (try clear hb2); (try clear hk); (try clear hi); (try clear ho0)))
  go_ret2
  exact ⟨_, _, by first | rfl | (simp [errW_none, errW_some] <;> rfl) | (simp [*, errW_none, errW_some] <;> rfl), by first | exact Kd.R_nil _ _ _ _ _ | exact Kd.N_nil _ _ _ _ _ | exact Kd.V_nil _ _ _ _ _ | exact Kd.Q_nil _ _ _ _ _ | exact Kd.S_nil _ _ _ _ _, by (with_reducible repeat (first | apply Kd.R_alloc | apply Kd.R_drewN | apply Kd.R_drew)); exact Kd.R_mono HO273.out (fun _ hk => (by simp [Value.ownBlock])), by repeat (first | (with_reducible first | exact HB.out | apply below_alloc | apply pw_below_drewN | apply below_drew1) | exact HB.out)⟩
 ·
  rw [if_neg c4] at H
  have c4b0 : decide (t270 < 0) = false := decide_eq_false c4
  clear c4
  by_cases c7 : (l1.length : Int) = 1
  ·
   rw [if_pos c7] at H
   have c7b0 : ((l1.length : Int) == 1) = true := beq_iff_eq.mpr c7
   have c7b1 : ((l1.length : Int) != 1) = false := bne_eq_false_iff_eq.mpr c7
   clear c7
   by_cases c8 : 0 < (l1.length : Int)
   ·
    rw [if_pos c8] at H
    have c8b0 : decide (0 < (l1.length : Int)) = true := decide_eq_true c8
    have c8b1 : decide (0 < l1.length) = true := decide_eq_true (by omega)
    clear c8; obtain ⟨⟨t275, t276⟩, A90, H⟩ := pb_ H
    have A9 := Aside0.mk A90; clear A90; obtain ⟨t279, A100, H⟩ := pb_ H
    have A10 := Aside0.mk A100; clear A100
    simp only [Option.some.injEq, Prod.mk.injEq] at H
    obtain ⟨rfl, rfl⟩ := H
    go_enter Try.func45, Try.ntmps45
    go_wp2_with (first | ((with_reducible refine gate_callee (f := 76) rfl ?_); refine gl_ 24 rfl rfl Try.func76 #[.slice A0 l0.length c0, .slice A1 l1.length c1] rfl ?_; (with_reducible refine (impl_natCompare.calls k _ _ l0 _ _ l1 t270 _ ?side1 ?side2 ?side3 ?side4 A3.out).mono ?_); (case side1 => repeat (first | exact HR0.out | (with_reducible refine Kd.C_alloc ?_ _) | (with_reducible refine Kd.C_drewN ?_ _) | (with_reducible refine Kd.C_drew ?_))); (case side2 => exact HC0.out); (case side3 => repeat (first | exact HR1.out | (with_reducible refine Kd.C_alloc ?_ _) | (with_reducible refine Kd.C_drewN ?_ _) | (with_reducible refine Kd.C_drew ?_))); (case side4 => exact HC1.out); rintro e w' ⟨rfl, ⟨nd, rfl⟩⟩; refine ⟨_, rfl, ?_⟩; have p274 : 0 ≤ (0 : Int) := (by omega); have q274 : 0 < (l1.length : Int) := of_decide_eq_true (by first | (with_reducible assumption) | assumption); obtain ⟨ad274, e274, hx274_0⟩ := Kd.at_int HR1.out 0 p274 q274; cases e274; have qi274 : (0 < l1.length) = True := eq_true (by omega); (try rw [show ((0 : Int)).toNat = 0 from rfl] at hx274_0); (try rw [Addr.add_zero'] at hx274_0); replace p274 := eq_true p274; replace q274 := eq_true q274) | ((with_reducible refine gate_callee (f := 83) rfl ?_); refine gl_ 36 rfl rfl Try.func83 #[.slice A0 l0.length c0, .int .i64 (rd l1 0)] rfl ?_; (with_reducible refine (impl_byDigit.calls k _ _ l0 (rd l1 0) t275 t276 _ ?side1 ?side2 A9.out).mono ?_); (case side1 => repeat (first | exact HR0.out | (with_reducible refine Kd.C_alloc ?_ _) | (with_reducible refine Kd.C_drewN ?_ _) | (with_reducible refine Kd.C_drew ?_))); (case side2 => exact HC0.out); rintro e w11 ⟨v277, rfl, ho0, hb⟩; refine ⟨_, rfl, ?_⟩; have HO278 := Aside0.mk (Kd.R_lower ho0 (below_size (bw_ HB))); replace HB := bs_ HB hb; (try clear hb); (try clear hb2); (try clear hk); (try clear hi); (try clear ho0)) | ((with_reducible refine gate_callee (f := 55) rfl ?_); refine gl_ 41 rfl rfl Try.func55 #[.int .i64 t276] rfl ?_; (with_reducible refine (impl_natOf.calls k t276 t279 _ A10.out).mono ?_); rintro e w12 ⟨v280, rfl, ho0, hb⟩; refine ⟨_, rfl, ?_⟩; have n0_ := Aside0.mk (Kd.R_elder' (by (with_reducible repeat (first | apply Kd.R_alloc | apply Kd.R_drewN | apply Kd.R_drew)); exact HO278.out) (Kd.R_base ho0) hb); have n1_ := Aside0.mk (Kd.R_lower (Kd.R_new' ho0 (Kd.R_lt (by (with_reducible repeat (first | apply Kd.R_alloc | apply Kd.R_drewN | apply Kd.R_drew)); exact HO278.out))) (below_size (bw_ HB))); have n2_ := bs_ HB hb; clear HO278; clear HB; have HO278 := n0_; have HO281 := n1_; have HB := n2_; clear n0_ n1_ n2_; (try clear hb); (try clear hb2); (try clear hk); (try clear hi); (try clear ho0)))
    go_ret2
    exact ⟨_, _, by first | rfl | (simp [errW_none, errW_some] <;> rfl) | (simp [*, errW_none, errW_some] <;> rfl), by (with_reducible repeat (first | apply Kd.R_alloc | apply Kd.R_drewN | apply Kd.R_drew)); exact Kd.R_mono HO278.out (fun _ hk => hk.2), by (with_reducible repeat (first | apply Kd.R_alloc | apply Kd.R_drewN | apply Kd.R_drew)); exact Kd.R_mono HO281.out (fun _ hk => hk.2), by repeat (first | (with_reducible first | exact HB.out | apply below_alloc | apply pw_below_drewN | apply below_drew1) | exact HB.out)⟩
   · rw [if_neg c8] at H; exact absurd H (by simp)
  ·
   rw [if_neg c7] at H
   have c7b0 : ((l1.length : Int) == 1) = false := beq_eq_false_iff_ne.mpr c7
   have c7b1 : ((l1.length : Int) != 1) = true := bne_iff_ne.mpr c7
   obtain ⟨ji13, hji13⟩ : ∃ j_ : Int, (wrap64 ((l1.length : Int) - 1)) = j_ := ⟨_, rfl⟩
   replace H : (if 0 ≤ (ji13) then (if (ji13) < (l1.length : Int) then ((bits_Len.f k (IntKind.u64.wrap (rd l1 (ji13)))).bind fun t283 => ((impl_shifted.f k l0 (wrap64 (16 - t283))).bind fun t284 => ((impl_shifted.f k l1 (wrap64 (16 - t283))).bind fun t287 => (if 0 ≤ (l1.length : Int) then (if (l1.length : Int) ≤ (t287.length : Int) then (if 0 ≤ (wrap64 ((t284.length : Int) - (l1.length : Int))) then (if (wrap64 ((t284.length : Int) - (l1.length : Int)) : Int).toNat ≤ 35184372088832 then ((some (List.replicate (wrap64 ((t284.length : Int) - (l1.length : Int)) : Int).toNat 0 : List Int)).bind fun y294 => (impl_natDiv.l0 k (l1.length : Int) (wrap64 (16 - t283)) t284 (t287.take ((l1.length : Int) : Int).toNat) y294 (wrap64 ((y294.length : Int) - 1)))) else (none)) else (none)) else (none)) else (none))))) else (none)) else (none)) = some (r1, r2) := by first | (rw [hji13] at H; exact H) | (simp only [hji13] at H ⊢; exact H)
   (try rw [hji13] at A3)
   have hji13w : (IntKind.i64.wrap ((l1.length : Int) - 1)) = ji13 := (i64_w _).trans hji13
   by_cases c14 : 0 ≤ (ji13)
   ·
    rw [if_pos c14] at H
    have c14b0 : decide (0 ≤ (ji13)) = true := decide_eq_true c14
    clear c14
    by_cases c15 : (ji13) < (l1.length : Int)
    ·
     rw [if_pos c15] at H
     have c15b0 : decide ((ji13) < (l1.length : Int)) = true := decide_eq_true c15
     clear c15; obtain ⟨t283, A160, H⟩ := pb_ H
     have A16 := Aside0.mk A160; clear A160; obtain ⟨t284, A170, H⟩ := pb_ H
     have A17 := Aside0.mk A170; clear A170; obtain ⟨t287, A180, H⟩ := pb_ H
     have A18 := Aside0.mk A180; clear A180
     by_cases c19 : 0 ≤ (l1.length : Int)
     ·
      rw [if_pos c19] at H; have c19b0 := eq_true c19
      have c19b1 : decide (0 ≤ (l1.length : Int)) = true := decide_eq_true c19
      clear c19
      by_cases c20 : (l1.length : Int) ≤ (t287.length : Int)
      ·
       rw [if_pos c20] at H; have c20b0 := eq_true c20
       have c20b1 : decide ((l1.length : Int) ≤ (t287.length : Int)) = true := decide_eq_true c20
       clear c20; obtain ⟨y290, hy290⟩ : ∃ y_ : List Int, y_ = (t287.take ((l1.length : Int) : Int).toNat) := ⟨_, rfl⟩
       replace H : (if 0 ≤ (wrap64 ((t284.length : Int) - (l1.length : Int))) then (if (wrap64 ((t284.length : Int) - (l1.length : Int)) : Int).toNat ≤ 35184372088832 then ((some (List.replicate (wrap64 ((t284.length : Int) - (l1.length : Int)) : Int).toNat 0 : List Int)).bind fun y294 => (impl_natDiv.l0 k (l1.length : Int) (wrap64 (16 - t283)) t284 y290 y294 (wrap64 ((y294.length : Int) - 1)))) else (none)) else (none)) = some (r1, r2) := by first | (rw [hy290]; with_reducible exact H) | (have H2_ := (Option.bind_some _ _).symm.trans H; rw [hy290]; with_reducible exact H2_) | (have H2_ := (Option.bind_some _ _).symm.trans H; with_reducible exact H2_) | with_reducible exact H | (rw [hy290]; exact H) | exact H
       have Ny290 := Aside0.mk hy290; clear hy290; obtain ⟨ji21, hji21⟩ : ∃ j_ : Int, (wrap64 ((t284.length : Int) - (l1.length : Int))) = j_ := ⟨_, rfl⟩
       replace H : (if 0 ≤ (ji21) then (if (ji21 : Int).toNat ≤ 35184372088832 then ((some (List.replicate (ji21 : Int).toNat 0 : List Int)).bind fun y294 => (impl_natDiv.l0 k (l1.length : Int) (wrap64 (16 - t283)) t284 y290 y294 (wrap64 ((y294.length : Int) - 1)))) else (none)) else (none)) = some (r1, r2) := by first | (rw [hji21] at H; exact H) | (simp only [hji21] at H ⊢; exact H)
       (try rw [hji21] at A3); (try rw [hji21] at A16); (try rw [hji21] at A17); (try rw [hji21] at A18)
       have hji21w : (IntKind.i64.wrap ((t284.length : Int) - (l1.length : Int))) = ji21 := (i64_w _).trans hji21
       by_cases c22 : 0 ≤ (ji21)
       ·
        rw [if_pos c22] at H; have c22b0 := eq_true c22
        have c22b1 : decide (0 ≤ (ji21)) = true := decide_eq_true c22
        clear c22
        by_cases c23 : (ji21 : Int).toNat ≤ 35184372088832
        ·
         rw [if_pos c23] at H; have c23b0 := eq_true c23
         have c23b1 : decide ((ji21 : Int).toNat ≤ 35184372088832) = true := decide_eq_true c23
         clear c23; obtain ⟨y294, hy294⟩ : ∃ y_ : List Int, y_ = (List.replicate (ji21 : Int).toNat 0) := ⟨_, rfl⟩
         replace H : (impl_natDiv.l0 k (l1.length : Int) (wrap64 (16 - t283)) t284 y290 y294 (wrap64 ((y294.length : Int) - 1))) = some (r1, r2) := by first | (rw [hy294]; with_reducible exact H) | (have H2_ := (Option.bind_some _ _).symm.trans H; rw [hy294]; with_reducible exact H2_) | (have H2_ := (Option.bind_some _ _).symm.trans H; with_reducible exact H2_) | with_reducible exact H | (rw [hy294]; exact H) | exact H
         have Ny294 := Aside0.mk hy294; clear hy294
         have H' := Aside0.mk H
         clear H
         go_enter Try.func45, Try.ntmps45
         try go_wp2_with (first | ((with_reducible refine gate_callee (f := 76) rfl ?_); refine gl_ 24 rfl rfl Try.func76 #[.slice A0 l0.length c0, .slice A1 l1.length c1] rfl ?_; (with_reducible refine (impl_natCompare.calls k _ _ l0 _ _ l1 t270 _ ?side1 ?side2 ?side3 ?side4 A3.out).mono ?_); (case side1 => repeat (first | exact HR0.out | (with_reducible refine Kd.C_alloc ?_ _) | (with_reducible refine Kd.C_drewN ?_ _) | (with_reducible refine Kd.C_drew ?_))); (case side2 => exact HC0.out); (case side3 => repeat (first | exact HR1.out | (with_reducible refine Kd.C_alloc ?_ _) | (with_reducible refine Kd.C_drewN ?_ _) | (with_reducible refine Kd.C_drew ?_))); (case side4 => exact HC1.out); rintro e w' ⟨rfl, ⟨nd, rfl⟩⟩; refine ⟨_, rfl, ?_⟩; have p282 : 0 ≤ ((ji13) : Int) := of_decide_eq_true (by first | (with_reducible assumption) | assumption); have q282 : (ji13) < (l1.length : Int) := of_decide_eq_true (by first | (with_reducible assumption) | assumption); obtain ⟨ad282, e282, hx282_0⟩ := Kd.at_int HR1.out (ji13) p282 q282; cases e282; replace p282 := eq_true p282; replace q282 := eq_true q282) | ((with_reducible refine gate_callee (f := 84) rfl ?_); refine goesL_ (some 48) rfl rfl Try.func84 (by kernel_rfl) rfl #[.int .u64 (IntKind.u64.wrap (rd l1 (ji13)))] rfl (by (try simp only [List.map_toArray, List.map_cons, List.map_nil]); first | done | (simp only [hji13]; rfl) | rfl | (simp only [List.length_drop, List.length_take]; rfl)) ?_; (with_reducible refine (bits_Len.calls k (IntKind.u64.wrap (rd l1 (ji13))) t283 _ A16.out).mono ?_); rintro e w' ⟨rfl, ⟨nd2, rfl⟩⟩; refine ⟨_, rfl, ?_⟩))
         replace HB := Aside0.mk (show Below w.heap.size w (w.drewN (nd + nd2)).drew from below_drew1 (pw_below_drewN HB.out _)); refine start_ (n := 10) (S := fun w' => True) (ds := []) (bl_ 10 0) (by kernel_rfl) rfl rfl trivial (fun hHeld => ?_); refine with_tabW impl_natDiv.tab8 impl_natDiv.bits8 (fun HT_ HW_ => ?_)
         generalize (w.drewN (nd + nd2)).drew = w24 at HB hHeld ⊢
         refine pu_ 0 50 (bl_ 10 1) rfl rfl HT_ ?_; refine pu_ 1 51 (bl_ 10 3) rfl rfl HT_ ?_; refine pu_ 3 53 (bl_ 10 11) rfl rfl HT_ ?_; refine pu_ 4 54 (bl_ 10 27) rfl rfl HT_ ?_; refine pu_ 6 56 (bl_ 10 91) rfl rfl HT_ ?_; refine one_ (i := 2) (N := some 52) (bl_ 10 95) rfl rfl (one_of HT_.out (by kernel_rfl)) (by decide) (fun K hK => ?_); refine gs_ Try.func85 #[.slice A0 l0.length c0, .int .i64 (wrap64 (16 - t283))] ?_
         with_reducible refine (impl_shifted.calls k _ _ l0 (wrap64 (16 - t283)) t284 _ ?side1 ?side2 A17.out).mono ?_
         (case side1 => repeat (first | exact (Kd.C_below HR0.out HB.out) | (with_reducible refine Kd.C_alloc ?_ _) | (with_reducible refine Kd.C_drewN ?_ _) | (with_reducible refine Kd.C_drew ?_)))
         (case side2 => exact HC0.out)
         rintro e w25 ⟨v285, rfl, ho0, hb⟩; refine ⟨_, rfl, ?_⟩; have HO286 := Aside0.mk (Kd.R_lower ho0 (below_size (bw_ HB))); replace HB := bs_ HB hb; (try clear hb); (try clear hk); (try clear ho0); refine hK.out _ _ trivial (fun hHeld => ?_); clear hK K
         apply norm_
         · show Act.put _ (some 52) _ = _; simp only [Act.put, sA_, sZ_, sS_, i64_w, i32_w]; rfl
         refine one_ (i := 5) (N := some 55) (bl_ 10 127) rfl rfl (one_of HT_.out (by kernel_rfl)) (by decide) (fun K hK => ?_); refine gs_ Try.func85 #[.slice (some ad282) l1.length c1, .int .i64 (wrap64 (16 - t283))] ?_
         with_reducible refine (impl_shifted.calls k _ _ l1 (wrap64 (16 - t283)) t287 _ ?side1 ?side2 A18.out).mono ?_
         (case side1 => repeat (first | exact (Kd.C_below HR1.out HB.out) | (with_reducible refine Kd.C_alloc ?_ _) | (with_reducible refine Kd.C_drewN ?_ _) | (with_reducible refine Kd.C_drew ?_)))
         (case side2 => exact HC1.out)
         rintro e w26 ⟨v288, rfl, ho0, hb⟩; refine ⟨_, rfl, ?_⟩; have HO289 := Aside0.mk (Kd.R_lower (Kd.R_new' ho0 (Kd.R_lt (by (with_reducible repeat (first | apply Kd.R_alloc | apply Kd.R_drewN | apply Kd.R_drew)); exact HO286.out))) (below_size (bw_ HB))); replace HO286 := Aside0.mk (Kd.R_elder' (by (with_reducible repeat (first | apply Kd.R_alloc | apply Kd.R_drewN | apply Kd.R_drew)); exact HO286.out) (Kd.R_base ho0) hb); replace HB := bs_ HB hb; (try clear hb); (try clear hk); (try clear ho0); obtain ⟨Ao28, co28, eo28⟩ := Kd.R_slice HO289.out
         (first | subst eo28 | (injection eo28 with f1_ f2_ f3_; have f4_ := f1_.symm; have f5_ := f3_.symm; clear f1_ f2_ f3_; subst f4_; subst f5_))
         have q27 : ((l1.length : Int) : Int) ≤ ((t287.length : Int) : Int) := of_decide_eq_true (by first | (with_reducible assumption) | assumption)
         obtain ⟨i027, hi027, _, hsz27, _⟩ := info_parts info3
         have hroom27 : t287.length ≤ co28 := (Kd.R_reads' HO289.out).2.1
         have hC27 : Kd.C (Kd.int .i64) _ Ao28 t287.length t287 := (Kd.R_reads' HO289.out).2.2
         have hcut27 := cut_to (P := Try.prog) 22 3 .i64 Try.underlying22 hi027 Ao28 t287.length co28 (l1.length : Int) (of_decide_eq_true (by first | (with_reducible assumption) | assumption)) q27 hroom27; have hr27 := Kd.C_take (m := ((l1.length : Int) : Int).toNat) hC27 (by omega)
         have hy27 : y290.length = ((l1.length : Int) : Int).toNat := (by rw [Ny290.out, List.length_take]; omega)
         rw [← Ny290.out] at hr27
         rw [← hy27] at hcut27
         have HR293 := Aside0.mk hr27; have HC293 := Aside0.mk (show y290.length ≤ co28 from by omega); clear hr27 hC27 hroom27 hi027 hsz27; have KY27 := Aside0.mk hy27; clear hy27; have KL27 := Aside0.mk (show ((l1.length : Int) : Int).toNat ≤ t287.length from by omega); replace q27 := eq_true q27; refine hK.out _ _ trivial (fun hHeld => ?_); clear hK K
         apply norm_
         · show Act.put _ (some 55) _ = _; simp only [Act.put, sA_, sZ_, sS_, i64_w, i32_w]; rfl
         refine pu_ 7 57 (bl_ 10 255) rfl rfl HT_ ?_; refine pu_ 8 10 (bl_ 10 511) rfl rfl HT_ ?_; refine pu_ 9 11 (bl_ 10 1023) rfl rfl HT_ ?_; refine done_ (done_of HT_.out (by kernel_rfl)) ?_; obtain ⟨Ao29, co29, eo29⟩ := Kd.R_slice HO286.out; subst eo29
         try go_wp2_with (first | ((with_reducible refine gate_dst (N := 62) rfl ?_); refine Kd.R_make (Kd.int .i64) _ 3 rfl (N := 62) rfl 22 _ _ rfl ji21 rfl rfl Try.underlying22 (.int .i64 0) 8 info3 rfl (by decide) (by omega) 0 (ok := fun _ => True) (okp := fun _ => True) rfl (fun _ hk => hk) trivial (of_decide_eq_true (by first | (with_reducible assumption) | assumption)) (Nat.le_trans (Nat.mul_le_mul_right _ (of_decide_eq_true (by first | (with_reducible assumption) | assumption) : ji21.toNat ≤ 35184372088832)) (by omega)) (Below.refl _ _) (Nat.le_refl _) ?_; intro v295 w30 ho31 hb hg_ hnew_; clear hg_ hnew_; (first | rw [← Ny294.out] at ho31 | (simp only [Int.reduceToNat] at ho31; rw [← Ny294.out] at ho31)); have n0_ := Aside0.mk (Kd.R_elder' (by (with_reducible repeat (first | apply Kd.R_alloc | apply Kd.R_drewN | apply Kd.R_drew)); exact HO286.out) (Kd.R_base ho31) hb); have n1_ := Aside0.mk (Kd.R_elder' (by (with_reducible repeat (first | apply Kd.R_alloc | apply Kd.R_drewN | apply Kd.R_drew)); exact HO289.out) (Kd.R_base ho31) hb); have n2_ := Aside0.mk (Kd.R_lower (Kd.R_new' (Kd.R_new' ho31 (Kd.R_lt (by (with_reducible repeat (first | apply Kd.R_alloc | apply Kd.R_drewN | apply Kd.R_drew)); exact HO286.out))) (Kd.R_lt (by (with_reducible repeat (first | apply Kd.R_alloc | apply Kd.R_drewN | apply Kd.R_drew)); exact HO289.out))) (below_size (bw_ HB))); have n3_ := Aside0.mk (Kd.C_below (by repeat (first | (with_reducible exact HR293.out) | (with_reducible refine Kd.C_alloc ?_ _) | (with_reducible refine Kd.C_drewN ?_ _) | (with_reducible refine Kd.C_drew ?_) | exact HR293.out)) hb); have n4_ := bs_ HB hb; clear HO286; clear HO289; clear HR293; clear HB; have HO286 := n0_; have HO289 := n1_; have HO296 := n2_; have HR293 := n3_; have HB := n4_; clear n0_ n1_ n2_ n3_ n4_; clear hb ho31; obtain ⟨Ao32, co32, eo32⟩ := Kd.R_slice HO296.out; subst eo32))
         go_loopg [13] k (fun kq v13 w' => ∃ (x10_1 : List Int) (x12_1 : List Int) (x13_1 : Int), v13 = .int .i64 x13_1 ∧ Aside0 (impl_natDiv.l0 kq (l1.length : Int) (wrap64 (16 - t283)) x10_1 y290 x12_1 x13_1 = some (r1, r2)) ∧ Aside0 (kq ≤ k) ∧ Aside0 (Kd.R (Kd.int .i64) 3 w' w.heap.size (fun k_ => some k_ ≠ ((.slice Ao32 y294.length co32) : Value).ownBlock) (.slice Ao29 t284.length co29) x10_1) ∧ Aside0 (Kd.R (Kd.int .i64) 3 w' w.heap.size (fun k_ => some k_ ≠ ((.slice Ao29 t284.length co29) : Value).ownBlock) (.slice Ao32 y294.length co32) x12_1) ∧ Aside0 (Kd.R (Kd.int .i64) 3 w' w.heap.size (far9 Ao29 Ao32) (.slice Ao28 t287.length co28) t287) ∧ Aside0 (Below w.heap.size w w'))
         case atStart => exact ⟨(t284), (y294), (wrap64 ((y294.length : Int) - 1)), (by first | rfl | (simp; done) | (simp [*]; done)), H', ⟨Nat.le_refl _⟩, ⟨by (with_reducible repeat (first | apply Kd.R_alloc | apply Kd.R_drewN | apply Kd.R_drew)); exact Kd.R_mono HO286.out (fun _ hk => hk.2)⟩, ⟨by (with_reducible repeat (first | apply Kd.R_alloc | apply Kd.R_drewN | apply Kd.R_drew)); exact Kd.R_mono HO296.out (fun _ hk => hk.1.2)⟩, ⟨by (with_reducible repeat (first | apply Kd.R_alloc | apply Kd.R_drewN | apply Kd.R_drew)); exact Kd.R_mono HO289.out (fun _ hk => far9_mk _ _ _ _ hk.1.2 hk.2)⟩, ⟨bw_ HB⟩⟩
         case round =>
          clear H'
          try clear c1
          try clear c2
          try clear p2
          try clear q2
          try clear hx2
          try clear qi2
          try clear c4
          try clear c4b0
          try clear c5
          try clear p6
          try clear c7
          try clear c7b0
          try clear c7b1
          try clear c8
          try clear c8b0
          try clear c8b1
          try clear c14
          try clear c14b0
          try clear c15
          try clear c15b0
          try clear c19
          try clear c19b0
          try clear c19b1
          try clear c20
          try clear c20b0
          try clear c20b1
          try clear c22
          try clear c22b0
          try clear c22b1
          try clear c23
          try clear c23b0
          try clear c23b1
          try clear p27
          try clear q27
          try clear hx27
          try clear qi27
          try clear p28
          try clear q28
          try clear hx28
          try clear hx274_0
          try clear hx282_0
          try clear p274
          try clear p282
          try clear q27
          try clear q274
          try clear q282
          obtain ⟨x10_1, x12_1, x13_1, rfl, HA, HK1, HO_10, HO_12, HO_9, HB⟩ := hrel; have hl10_1 := (Kd.R_reads' HO_10.out).1
          rw [hl10_1] at HO_10
          (try simp only [hl10_1]); (try simp only [hl10_1] at HO_12); have hl12_1 := (Kd.R_reads' HO_12.out).1
          rw [hl12_1] at HO_12
          (try simp only [hl12_1]); (try simp only [hl12_1] at HO_10)
          cases gk with
          | zero => exact absurd HA.out (by simp [impl_natDiv.l0])
          | succ k1 =>
           have H := HA.out; clear HA
           simp only [impl_natDiv.l0] at H
           by_cases c33 : x13_1 ≥ 0
           ·
            rw [if_pos c33] at H
            have c33b0 : decide (0 ≤ x13_1) = true := decide_eq_true c33
            clear c33
            obtain ⟨jE, hjE⟩ : ∃ j_ : Int, (wrap64 ((wrap64 (x13_1 + (l1.length : Int))) + 1)) = j_ := ⟨_, rfl⟩
            rw [hjE] at H
            have hjEw : IntKind.i64.wrap (IntKind.i64.wrap (x13_1 + (l1.length : Int)) + 1) = jE := by rw [i64_w, i64_w]; exact hjE
            have hjEv : IntKind.i64.wrap ((wrap64 (x13_1 + (l1.length : Int))) + 1) = jE := by rw [i64_w]; exact hjE
            have cE0 : 0 ≤ x13_1 := of_decide_eq_true c33b0
            by_cases cE1 : x13_1 ≤ jE
            rotate_left
            · rw [if_neg cE1] at H; exact absurd H (by simp)
            rw [if_pos cE1] at H
            by_cases cE2 : jE ≤ (x10_1.length : Int)
            rotate_left
            · rw [if_neg cE2] at H; exact absurd H (by simp)
            rw [if_pos cE2] at H
            obtain ⟨yp, hyp⟩ : ∃ y_ : List Int, y_ = pt_ x10_1 x13_1 jE := ⟨_, rfl⟩
            rw [← hyp] at H
            have Nyp := Aside0.mk hyp; clear hyp
            have hypl : yp.length = jE.toNat - x13_1.toNat := by rw [Nyp.out]; unfold pt_; rw [List.length_take, List.length_drop]; omega
            have Hle := Aside0.mk (show x13_1.toNat + yp.length ≤ x10_1.length by omega)
            have Hspl := Aside0.mk (show spl x10_1 x13_1.toNat yp = x10_1 by rw [Nyp.out]; exact spl_self (by omega))
            have CE := Aside0.mk (show 0 ≤ x13_1 ∧ x13_1 ≤ jE ∧ jE ≤ (x10_1.length : Int) from ⟨cE0, cE1, cE2⟩)
            have Hypl := Aside0.mk hypl; clear hypl cE0 cE1 cE2
            by_cases c34 : 0 ≤ (l1.length : Int)
            ·
             rw [if_pos c34] at H
             have c34b0 : decide (0 ≤ (l1.length : Int)) = true := decide_eq_true c34
             have c34b1 : decide (0 ≤ l1.length) = true := decide_eq_true (by omega)
             clear c34
             by_cases c35 : (l1.length : Int) < (yp.length : Int)
             ·
              rw [if_pos c35] at H
              have c35b0 : decide ((l1.length : Int) < (yp.length : Int)) = true := decide_eq_true c35
              have c35b1 : decide (l1.length < yp.length) = true := decide_eq_true (Int.ofNat_lt.mp c35)
              clear c35; skip
              replace H : (if 0 ≤ (ji13) then (if (ji13) < (yp.length : Int) then (if (ji13) < (y290.length : Int) then (if (rd y290 (ji13)) = 0 then (none) else (impl_natDiv.l1 k1 (l1.length : Int) (wrap64 (16 - t283)) x10_1 yp y290 x12_1 x13_1 (wrap64 ((wrap64 ((rd yp (l1.length : Int)) * 65536)) + (rd yp (ji13)))) (mn 65535 (wrap64 (Int.tdiv (wrap64 ((wrap64 ((rd yp (l1.length : Int)) * 65536)) + (rd yp (ji13)))) (rd y290 (ji13))))))) else (none)) else (none)) else (none)) = some (r1, r2) := by first | (rw [hji13] at H; exact H) | (simp only [hji13] at H ⊢; exact H)
              by_cases c37 : 0 ≤ (ji13)
              ·
               rw [if_pos c37] at H
               have c37b0 : decide (0 ≤ (ji13)) = true := decide_eq_true c37
               clear c37
               by_cases c38 : (ji13) < (yp.length : Int)
               ·
                rw [if_pos c38] at H
                have c38b0 : decide ((ji13) < (yp.length : Int)) = true := decide_eq_true c38
                clear c38
                by_cases c39 : (ji13) < (y290.length : Int)
                ·
                 rw [if_pos c39] at H
                 have c39b0 : decide ((ji13) < (y290.length : Int)) = true := decide_eq_true c39
                 clear c39
                 by_cases c40 : (rd y290 (ji13)) = 0
                 · rw [if_pos c40] at H; exact absurd H (by simp)
                 ·
                  rw [if_neg c40] at H
                  have c40b0 : ((rd y290 (ji13)) == 0) = false := beq_eq_false_iff_ne.mpr c40
                  have c40b1 : ((rd y290 (ji13)) != 0) = true := bne_iff_ne.mpr c40
                  obtain ⟨ji41, hji41⟩ : ∃ j_ : Int, (mn 65535 (wrap64 (Int.tdiv (wrap64 ((wrap64 ((rd yp (l1.length : Int)) * 65536)) + (rd yp (ji13)))) (rd y290 (ji13))))) = j_ := ⟨_, rfl⟩
                  replace H : (impl_natDiv.l1 k1 (l1.length : Int) (wrap64 (16 - t283)) x10_1 yp y290 x12_1 x13_1 (wrap64 ((wrap64 ((rd yp (l1.length : Int)) * 65536)) + (rd yp (ji13)))) ji41) = some (r1, r2) := by first | (rw [hji41] at H; exact H) | (simp only [hji41] at H ⊢; exact H)
                  have hji41_ : (if (wrap64 (Int.tdiv (wrap64 ((wrap64 ((rd yp (l1.length : Int)) * 65536)) + (rd yp (ji13)))) (rd y290 (ji13)))) < 65535 then (wrap64 (Int.tdiv (wrap64 ((wrap64 ((rd yp (l1.length : Int)) * 65536)) + (rd yp (ji13)))) (rd y290 (ji13)))) else 65535) = ji41 := hji41
                  (try simp only [Int.ofNat_lt] at hji41_)
                  have H' := Aside0.mk H
                  clear H
                  have hpos : 0 < x10_1.length := by have h1_ := of_decide_eq_true c35b0; have h2_ := Hle.out; omega
                  obtain ⟨gr_, cr_, er_, gbr_, _, _, _⟩ := Kd.R_form HO_10.out hpos
                  have HAo := Aside0.mk (show Ao29 = some ⟨gr_, 0, none⟩ by injection er_)
                  clear er_ hpos
                  obtain ⟨ad308, had308⟩ : ∃ a_ : Addr, a_ = ⟨gr_, x13_1.toNat, none⟩ := ⟨_, rfl⟩
                  have HAd := Aside0.mk had308; clear had308
                  have hcutp : ∀ W : World, (Instr.slice 22 (.slice Ao29 x10_1.length co29) (some (.int .i64 x13_1)) (some (.int .i64 jE)) none).run Try.prog W = .ok (.slice (some ad308) yp.length (co29 - x13_1.toNat)) W := by
                   obtain ⟨iE, hiE, _, hszE, _⟩ := info_parts info3
                   intro W
                   have h1_ := (Kd.R_reads' HO_10.out).2.1
                   have h2_ := CE.out
                   have h3_ := Hle.out
                   have h4_ := Hypl.out
                   have h5_ := of_decide_eq_true c35b0
                   have h_ := cut_mid (P := Try.prog) 22 3 .i64 .i64 Try.underlying22 hiE 1 hszE Ao29 x10_1.length co29 x13_1 jE h2_.1 h2_.2.1 h2_.2.2 h1_ W
                   rw [h_, if_neg (by omega), HAo.out, HAd.out, h4_]
                   simp only [Option.map_some, Nat.mul_one, adp_, Nat.zero_add]
                  try go_wp2
                  replace HO_10 := Aside0.mk (Kd.R_drew HO_10.out); replace HO_12 := Aside0.mk (Kd.R_drew HO_12.out); replace HO_9 := Aside0.mk (Kd.R_drew HO_9.out); replace HB := Aside0.mk (below_drew1 HB.out)
                  have p308 : 0 ≤ ((l1.length : Int) : Int) := of_decide_eq_true (by first | (with_reducible assumption) | assumption)
                  have q308 : (l1.length : Int) < (yp.length : Int) := of_decide_eq_true (by first | (with_reducible assumption) | assumption)
                  obtain ⟨ad308_, e308, hx308_0⟩ := Kd.at_int (part_C HO_10.out HAo.out HAd.out Hspl.out Hle.out) (l1.length : Int) p308 q308; obtain rfl : ad308 = ad308_ := (by injection e308)
                  (try simp only [Go.IntWalk.toNatUp] at hx308_0); (try simp only [hl10_1, hl12_1] at p308); (try simp only [hl10_1, hl12_1] at q308); (try simp only [hl10_1, hl12_1] at hx308_0); replace p308 := eq_true p308; replace q308 := eq_true q308
                  have p309 : 0 ≤ ((ji13) : Int) := of_decide_eq_true (by first | (with_reducible assumption) | assumption)
                  have q309 : (ji13) < (yp.length : Int) := of_decide_eq_true (by first | (with_reducible assumption) | assumption)
                  obtain ⟨ad309, e309, hx309_0⟩ := Kd.at_int (part_C HO_10.out HAo.out HAd.out Hspl.out Hle.out) (ji13) p309 q309; obtain rfl : ad308 = ad309 := (by injection e309); replace p309 := eq_true p309; replace q309 := eq_true q309; refine start_ (n := 12) (S := fun w' => w'.cell? (ad308.add l1.length) = some (.int .i64 (rd yp (l1.length : Int))) ∧ w'.cell? (ad308.add ((ji13)).toNat) = some (.int .i64 (rd yp (ji13)))) (ds := []) (bl_ 12 0) (by kernel_rfl) rfl rfl ⟨hx308_0, hx309_0⟩ (fun hHeld => ?_); refine with_tabW impl_natDiv.tab14 impl_natDiv.bits14 (fun HT_ HW_ => ?_)
                  generalize wr.drew = w42 at HO_10 HO_12 HO_9 HB hx308_0 hx309_0 hHeld ⊢
                  refine pu_ 0 77 (bl_ 12 1) rfl rfl HT_ ?_; refine pu_ 1 78 (bl_ 12 3) rfl rfl HT_ ?_; refine pu_ 2 79 (bl_ 12 7) rfl rfl HT_ ?_; refine pu_ 5 82 (bl_ 12 39) rfl rfl HT_ ?_; refine pu_ 6 83 (bl_ 12 103) rfl rfl HT_ ?_; refine pu_ 7 84 (bl_ 12 231) rfl rfl HT_ ?_; refine pu_ 8 85 (bl_ 12 487) rfl rfl HT_ ?_; refine tk_ 3 80 (bl_ 12 495) rfl rfl HT_ HW_ hHeld (by rintro w' ⟨s0, s1⟩; go_simp; with_reducible rfl) ?_; refine pu_ 4 81 (bl_ 12 511) rfl rfl HT_ ?_; refine tk_ 9 86 (bl_ 12 1023) rfl rfl HT_ HW_ hHeld (by rintro w' ⟨s0, s1⟩; go_simp; with_reducible rfl) ?_; refine pu_ 10 87 (bl_ 12 2047) rfl rfl HT_ ?_; refine pu_ 11 15 (bl_ 12 4095) rfl rfl HT_ ?_; refine done_ (done_of HT_.out (by kernel_rfl)) ?_
                  have p310 : 0 ≤ ((ji13) : Int) := of_decide_eq_true (by first | (with_reducible assumption) | assumption)
                  have q310 : (ji13) < (y290.length : Int) := of_decide_eq_true (by first | (with_reducible assumption) | assumption)
                  obtain ⟨ad310, e310, hx310_0⟩ := Kd.at_int (cut_C HO_9.out Ny290.out KL27.out) (ji13) p310 q310
                  cases e310
                  replace p310 := eq_true p310; replace q310 := eq_true q310
                  try go_wp2
                  go_loopg [16] k1 (fun kq v16 w' => ∃ (x16_2 : Int), v16 = .int .i64 x16_2 ∧ Aside0 (impl_natDiv.l1 kq (l1.length : Int) (wrap64 (16 - t283)) x10_1 yp y290 x12_1 x13_1 (wrap64 ((wrap64 ((rd yp (l1.length : Int)) * 65536)) + (rd yp (ji13)))) x16_2 = some (r1, r2)) ∧ Aside0 (kq ≤ k1) ∧ Aside0 (Kd.R (Kd.int .i64) 3 w' w.heap.size (fun k_ => some k_ ≠ ((.slice Ao32 x12_1.length co32) : Value).ownBlock) (.slice Ao29 x10_1.length co29) x10_1) ∧ Aside0 (Kd.R (Kd.int .i64) 3 w' w.heap.size (fun k_ => some k_ ≠ ((.slice Ao29 x10_1.length co29) : Value).ownBlock) (.slice Ao32 x12_1.length co32) x12_1) ∧ Aside0 (Kd.R (Kd.int .i64) 3 w' w.heap.size (far9 Ao29 Ao32) (.slice (some ad310) t287.length co28) t287) ∧ Aside0 (Below w.heap.size w w'))
                  case atStart => exact ⟨(ji41), (by first | rfl | (simp; done) | (simp only [← hji41] <;> (first | rfl | simp)) | (simp [*]; done)), H', ⟨Nat.le_refl _⟩, ⟨by (try simp only [hl10_1]); (try simp only [hl12_1]); (with_reducible repeat (first | apply Kd.R_alloc | apply Kd.R_drewN | apply Kd.R_drew)); exact HO_10.out⟩, ⟨by (try simp only [hl10_1]); (try simp only [hl12_1]); (with_reducible repeat (first | apply Kd.R_alloc | apply Kd.R_drewN | apply Kd.R_drew)); exact HO_12.out⟩, ⟨by (with_reducible repeat (first | apply Kd.R_alloc | apply Kd.R_drewN | apply Kd.R_drew)); exact HO_9.out⟩, ⟨bw_ HB⟩⟩
                  case round =>
                   clear H'
                   try clear c1
                   try clear c2
                   try clear p2
                   try clear q2
                   try clear hx2
                   try clear qi2
                   try clear c3
                   try clear p3
                   try clear q3
                   try clear hx3
                   try clear c4
                   try clear c4b0
                   try clear c5
                   try clear p6
                   try clear c7
                   try clear c7b0
                   try clear c7b1
                   try clear c8
                   try clear c8b0
                   try clear c8b1
                   try clear c14
                   try clear c14b0
                   try clear c15
                   try clear c15b0
                   try clear c19
                   try clear c19b0
                   try clear c19b1
                   try clear c20
                   try clear c20b0
                   try clear c20b1
                   try clear c22
                   try clear c22b0
                   try clear c22b1
                   try clear c23
                   try clear c23b0
                   try clear c23b1
                   try clear p27
                   try clear q27
                   try clear hx27
                   try clear qi27
                   try clear p28
                   try clear q28
                   try clear hx28
                   try clear p30
                   try clear q30
                   try clear hx30
                   try clear p31
                   try clear q31
                   try clear hx31
                   try clear c33
                   try clear c33b0
                   try clear c34
                   try clear c34b0
                   try clear c34b1
                   try clear c35
                   try clear c35b0
                   try clear c35b1
                   try clear c37
                   try clear c37b0
                   try clear c38
                   try clear c38b0
                   try clear c39
                   try clear c39b0
                   try clear c40
                   try clear c40b0
                   try clear c40b1
                   try clear hx274_0
                   try clear hx282_0
                   try clear hx308_0
                   try clear hx309_0
                   try clear hx310_0
                   try clear p2
                   try clear p27
                   try clear p274
                   try clear p28
                   try clear p282
                   try clear p308
                   try clear p309
                   try clear p310
                   try clear p6
                   try clear q2
                   try clear q27
                   try clear q274
                   try clear q28
                   try clear q282
                   try clear q308
                   try clear q309
                   try clear q310
                   obtain ⟨x16_2, rfl, HA, HK2, HO_10, HO_12, HO_9, HB⟩ := hrel
                   cases gk with
                   | zero => exact absurd HA.out (by simp [impl_natDiv.l1])
                   | succ k2 =>
                    have H := HA.out; clear HA
                    simp only [impl_natDiv.l1] at H
                    obtain ⟨ji43, hji43⟩ : ∃ j_ : Int, (wrap64 ((l1.length : Int) - 2)) = j_ := ⟨_, rfl⟩
                    replace H : (if 0 ≤ (ji43) then (if (ji43) < (y290.length : Int) then (if 0 ≤ (wrap64 ((l1.length : Int) - 1)) then (if (wrap64 ((l1.length : Int) - 1)) < (y290.length : Int) then (if (ji43) < (yp.length : Int) then (if (wrap64 (x16_2 * (rd y290 (ji43)))) > (wrap64 ((wrap64 ((wrap64 ((wrap64 ((wrap64 ((rd yp (l1.length : Int)) * 65536)) + (rd yp (ji13)))) - (wrap64 (x16_2 * (rd y290 (wrap64 ((l1.length : Int) - 1))))))) * 65536)) + (rd yp (ji43)))) then (impl_natDiv.l1 k2 (l1.length : Int) (wrap64 (16 - t283)) x10_1 yp y290 x12_1 x13_1 (wrap64 ((wrap64 ((rd yp (l1.length : Int)) * 65536)) + (rd yp (ji13)))) (wrap64 (x16_2 - 1))) else ((impl_takeAway.f k2 yp y290 x16_2).bind fun bt314 => (if bt314.1 = true then ((impl_giveBack.f k2 bt314.2 y290).bind fun t316 => (if 0 ≤ x13_1 then (if x13_1 < (x12_1.length : Int) then (impl_natDiv.l0 k2 (l1.length : Int) (wrap64 (16 - t283)) (spl x10_1 x13_1.toNat t316) y290 (x12_1.set (x13_1 : Int).toNat (wrap64 (x16_2 - 1))) (wrap64 (x13_1 - 1))) else (none)) else (none))) else (if 0 ≤ x13_1 then (if x13_1 < (x12_1.length : Int) then (impl_natDiv.l0 k2 (l1.length : Int) (wrap64 (16 - t283)) (spl x10_1 x13_1.toNat bt314.2) y290 (x12_1.set (x13_1 : Int).toNat x16_2) (wrap64 (x13_1 - 1))) else (none)) else (none))))) else (none)) else (none)) else (none)) else (none)) else (none)) = some (r1, r2) := by first | (rw [hji43] at H; exact H) | (simp only [hji43] at H ⊢; exact H)
                    have hji43w : (IntKind.i64.wrap ((l1.length : Int) - 2)) = ji43 := (i64_w _).trans hji43
                    by_cases c44 : 0 ≤ (ji43)
                    ·
                     rw [if_pos c44] at H
                     have c44b0 : decide (0 ≤ (ji43)) = true := decide_eq_true c44
                     clear c44
                     by_cases c45 : (ji43) < (y290.length : Int)
                     ·
                      rw [if_pos c45] at H
                      have c45b0 : decide ((ji43) < (y290.length : Int)) = true := decide_eq_true c45
                      clear c45; skip
                      replace H : (if 0 ≤ (ji13) then (if (ji13) < (y290.length : Int) then (if (ji43) < (yp.length : Int) then (if (wrap64 (x16_2 * (rd y290 (ji43)))) > (wrap64 ((wrap64 ((wrap64 ((wrap64 ((wrap64 ((rd yp (l1.length : Int)) * 65536)) + (rd yp (ji13)))) - (wrap64 (x16_2 * (rd y290 (ji13)))))) * 65536)) + (rd yp (ji43)))) then (impl_natDiv.l1 k2 (l1.length : Int) (wrap64 (16 - t283)) x10_1 yp y290 x12_1 x13_1 (wrap64 ((wrap64 ((rd yp (l1.length : Int)) * 65536)) + (rd yp (ji13)))) (wrap64 (x16_2 - 1))) else ((impl_takeAway.f k2 yp y290 x16_2).bind fun bt314 => (if bt314.1 = true then ((impl_giveBack.f k2 bt314.2 y290).bind fun t316 => (if 0 ≤ x13_1 then (if x13_1 < (x12_1.length : Int) then (impl_natDiv.l0 k2 (l1.length : Int) (wrap64 (16 - t283)) (spl x10_1 x13_1.toNat t316) y290 (x12_1.set (x13_1 : Int).toNat (wrap64 (x16_2 - 1))) (wrap64 (x13_1 - 1))) else (none)) else (none))) else (if 0 ≤ x13_1 then (if x13_1 < (x12_1.length : Int) then (impl_natDiv.l0 k2 (l1.length : Int) (wrap64 (16 - t283)) (spl x10_1 x13_1.toNat bt314.2) y290 (x12_1.set (x13_1 : Int).toNat x16_2) (wrap64 (x13_1 - 1))) else (none)) else (none))))) else (none)) else (none)) else (none)) = some (r1, r2) := by first | (rw [hji13] at H; exact H) | (simp only [hji13] at H ⊢; exact H)
                      by_cases c47 : 0 ≤ (ji13)
                      ·
                       rw [if_pos c47] at H
                       have c47b0 : decide (0 ≤ (ji13)) = true := decide_eq_true c47
                       clear c47
                       by_cases c48 : (ji13) < (y290.length : Int)
                       ·
                        rw [if_pos c48] at H
                        have c48b0 : decide ((ji13) < (y290.length : Int)) = true := decide_eq_true c48
                        clear c48
                        by_cases c49 : (ji43) < (yp.length : Int)
                        ·
                         rw [if_pos c49] at H
                         have c49b0 : decide ((ji43) < (yp.length : Int)) = true := decide_eq_true c49
                         clear c49
                         by_cases c50 : (wrap64 (x16_2 * (rd y290 (ji43)))) > (wrap64 ((wrap64 ((wrap64 ((wrap64 ((wrap64 ((rd yp (l1.length : Int)) * 65536)) + (rd yp (ji13)))) - (wrap64 (x16_2 * (rd y290 (ji13)))))) * 65536)) + (rd yp (ji43))))
                         ·
                          rw [if_pos c50] at H
                          have c50b0 : decide ((wrap64 ((wrap64 ((wrap64 ((wrap64 ((wrap64 ((rd yp (l1.length : Int)) * 65536)) + (rd yp (ji13)))) - (wrap64 (x16_2 * (rd y290 (ji13)))))) * 65536)) + (rd yp (ji43)))) < (wrap64 (x16_2 * (rd y290 (ji43))))) = true := decide_eq_true c50
                          clear c50
                          have H' := Aside0.mk H
                          clear H
                          try go_wp2
                          replace HO_10 := Aside0.mk (Kd.R_drew HO_10.out); replace HO_12 := Aside0.mk (Kd.R_drew HO_12.out); replace HO_9 := Aside0.mk (Kd.R_drew HO_9.out); replace HB := Aside0.mk (below_drew1 HB.out)
                          have p311 : 0 ≤ ((ji43) : Int) := of_decide_eq_true (by first | (with_reducible assumption) | assumption)
                          have q311 : (ji43) < (y290.length : Int) := of_decide_eq_true (by first | (with_reducible assumption) | assumption)
                          obtain ⟨ad311, e311, hx311_0⟩ := Kd.at_int (cut_C HO_9.out Ny290.out KL27.out) (ji43) p311 q311; have hw311_0 := hx311_0; obtain rfl : ad310 = ad311 := (by injection e311); replace p311 := eq_true p311; replace q311 := eq_true q311
                          have p312 : 0 ≤ ((ji13) : Int) := of_decide_eq_true (by first | (with_reducible assumption) | assumption)
                          have q312 : (ji13) < (y290.length : Int) := of_decide_eq_true (by first | (with_reducible assumption) | assumption)
                          obtain ⟨ad312, e312, hx312_0⟩ := Kd.at_int (cut_C HO_9.out Ny290.out KL27.out) (ji13) p312 q312; have hw312_0 := hx312_0; obtain rfl : ad310 = ad312 := (by injection e312); replace p312 := eq_true p312; replace q312 := eq_true q312
                          have p313 : 0 ≤ ((ji43) : Int) := of_decide_eq_true (by first | (with_reducible assumption) | assumption)
                          have q313 : (ji43) < (yp.length : Int) := of_decide_eq_true (by first | (with_reducible assumption) | assumption)
                          obtain ⟨ad313, e313, hx313_0⟩ := Kd.at_int (part_C HO_10.out HAo.out HAd.out Hspl.out Hle.out) (ji43) p313 q313; obtain rfl : ad308 = ad313 := (by injection e313); replace p313 := eq_true p313; replace q313 := eq_true q313; refine start_ (n := 24) (S := fun w' => w'.cell? (ad310.add ((ji43)).toNat) = some (.int .i64 (rd y290 (ji43))) ∧ w'.cell? (ad310.add ((ji13)).toNat) = some (.int .i64 (rd y290 (ji13))) ∧ w'.cell? (ad308.add ((ji43)).toNat) = some (.int .i64 (rd yp (ji43)))) (ds := []) (bl_ 24 0) (by kernel_rfl) rfl rfl ⟨hw311_0, hw312_0, hx313_0⟩ (fun hHeld => ?_); refine with_tabW impl_natDiv.tab16 impl_natDiv.bits16 (fun HT_ HW_ => ?_)
                          generalize wr.drew = w51 at HO_10 HO_12 HO_9 HB hx311_0 hx312_0 hx313_0 hHeld ⊢
                          refine pu_ 0 96 (bl_ 24 1) rfl rfl HT_ ?_; refine pu_ 1 97 (bl_ 24 3) rfl rfl HT_ ?_; refine pu_ 2 98 (bl_ 24 7) rfl rfl HT_ ?_; refine pu_ 3 99 (bl_ 24 15) rfl rfl HT_ ?_; refine pu_ 4 100 (bl_ 24 31) rfl rfl HT_ ?_; refine pu_ 7 103 (bl_ 24 159) rfl rfl HT_ ?_; refine pu_ 8 104 (bl_ 24 415) rfl rfl HT_ ?_; refine pu_ 9 105 (bl_ 24 927) rfl rfl HT_ ?_; refine pu_ 10 106 (bl_ 24 1951) rfl rfl HT_ ?_; refine pu_ 11 107 (bl_ 24 3999) rfl rfl HT_ ?_; refine pu_ 12 108 (bl_ 24 8095) rfl rfl HT_ ?_; refine pu_ 17 113 (bl_ 24 139167) rfl rfl HT_ ?_; refine pu_ 18 114 (bl_ 24 401311) rfl rfl HT_ ?_; refine pu_ 19 115 (bl_ 24 925599) rfl rfl HT_ ?_; refine pu_ 20 116 (bl_ 24 1974175) rfl rfl HT_ ?_; refine tk_ 5 101 (bl_ 24 1974207) rfl rfl HT_ HW_ hHeld (by rintro w' ⟨s0, s1, s2⟩; go_simp; with_reducible rfl) ?_; refine pu_ 6 102 (bl_ 24 1974271) rfl rfl HT_ ?_; refine tk_ 13 109 (bl_ 24 1982463) rfl rfl HT_ HW_ hHeld (by rintro w' ⟨s0, s1, s2⟩; go_simp; with_reducible rfl) ?_; refine pu_ 14 110 (bl_ 24 1998847) rfl rfl HT_ ?_; refine pu_ 15 111 (bl_ 24 2031615) rfl rfl HT_ ?_; refine pu_ 16 112 (bl_ 24 2097151) rfl rfl HT_ ?_; refine tk_ 21 117 (bl_ 24 4194303) rfl rfl HT_ HW_ hHeld (by rintro w' ⟨s0, s1, s2⟩; go_simp; with_reducible rfl) ?_; refine pu_ 22 118 (bl_ 24 8388607) rfl rfl HT_ ?_; refine pu_ 23 119 (bl_ 24 16777215) rfl rfl HT_ ?_; refine done_ (done_of HT_.out (by kernel_rfl)) ?_
                          try go_wp2
                          go_roundg k2
                          case measure => have := HK1.out; have := HK2.out; omega
                          case rel => exact ⟨(wrap64 (x16_2 - 1)), (by first | rfl | (simp; done) | (simp [*]; done)), H', ⟨by have := HK1.out; have := HK2.out; omega⟩, ⟨by (try simp only [hl10_1]); (try simp only [hl12_1]); (with_reducible repeat (first | apply Kd.R_alloc | apply Kd.R_drewN | apply Kd.R_drew)); exact HO_10.out⟩, ⟨by (try simp only [hl10_1]); (try simp only [hl12_1]); (with_reducible repeat (first | apply Kd.R_alloc | apply Kd.R_drewN | apply Kd.R_drew)); exact HO_12.out⟩, ⟨by (with_reducible repeat (first | apply Kd.R_alloc | apply Kd.R_drewN | apply Kd.R_drew)); exact HO_9.out⟩, ⟨bw_ HB⟩⟩
                         ·
                          rw [if_neg c50] at H
                          have c50b0 : decide ((wrap64 ((wrap64 ((wrap64 ((wrap64 ((wrap64 ((rd yp (l1.length : Int)) * 65536)) + (rd yp (ji13)))) - (wrap64 (x16_2 * (rd y290 (ji13)))))) * 65536)) + (rd yp (ji43)))) < (wrap64 (x16_2 * (rd y290 (ji43))))) = false := decide_eq_false c50
                          clear c50; obtain ⟨⟨t314, t315⟩, A520, H⟩ := pb_ H
                          have A52 := Aside0.mk A520; clear A520
                          by_cases c53 : t314 = true
                          ·
                           subst c53
                           rw [if_pos rfl] at H; obtain ⟨t316, A540, H⟩ := pb_ H
                           have A54 := Aside0.mk A540; clear A540
                           by_cases c55 : 0 ≤ x13_1
                           ·
                            rw [if_pos c55] at H
                            have c55b0 : decide (0 ≤ x13_1) = true := decide_eq_true c55
                            clear c55
                            by_cases c56 : x13_1 < (x12_1.length : Int)
                            ·
                             rw [if_pos c56] at H
                             have c56b0 : decide (x13_1 < (x12_1.length : Int)) = true := decide_eq_true c56
                             clear c56; obtain ⟨y317, hy317⟩ : ∃ y_ : List Int, y_ = (x12_1.set (x13_1 : Int).toNat (wrap64 (x16_2 - 1))) := ⟨_, rfl⟩
                             replace H : (impl_natDiv.l0 k2 (l1.length : Int) (wrap64 (16 - t283)) (spl x10_1 x13_1.toNat t316) y290 y317 (wrap64 (x13_1 - 1))) = some (r1, r2) := by first | (rw [hy317]; with_reducible exact H) | (have H2_ := (Option.bind_some _ _).symm.trans H; rw [hy317]; with_reducible exact H2_) | (have H2_ := (Option.bind_some _ _).symm.trans H; with_reducible exact H2_) | with_reducible exact H | (rw [hy317]; exact H) | exact H
                             have Ny317 := Aside0.mk hy317; clear hy317
                             have H' := Aside0.mk H
                             clear H
                             try go_wp2
                             replace HO_10 := Aside0.mk (Kd.R_drew HO_10.out); replace HO_12 := Aside0.mk (Kd.R_drew HO_12.out); replace HO_9 := Aside0.mk (Kd.R_drew HO_9.out); replace HB := Aside0.mk (below_drew1 HB.out)
                             have p311 : 0 ≤ ((ji43) : Int) := of_decide_eq_true (by first | (with_reducible assumption) | assumption)
                             have q311 : (ji43) < (y290.length : Int) := of_decide_eq_true (by first | (with_reducible assumption) | assumption)
                             obtain ⟨ad311, e311, hx311_0⟩ := Kd.at_int (cut_C HO_9.out Ny290.out KL27.out) (ji43) p311 q311; have hw311_0 := hx311_0; obtain rfl : ad310 = ad311 := (by injection e311); replace p311 := eq_true p311; replace q311 := eq_true q311
                             have p312 : 0 ≤ ((ji13) : Int) := of_decide_eq_true (by first | (with_reducible assumption) | assumption)
                             have q312 : (ji13) < (y290.length : Int) := of_decide_eq_true (by first | (with_reducible assumption) | assumption)
                             obtain ⟨ad312, e312, hx312_0⟩ := Kd.at_int (cut_C HO_9.out Ny290.out KL27.out) (ji13) p312 q312; have hw312_0 := hx312_0; obtain rfl : ad310 = ad312 := (by injection e312); replace p312 := eq_true p312; replace q312 := eq_true q312
                             have p313 : 0 ≤ ((ji43) : Int) := of_decide_eq_true (by first | (with_reducible assumption) | assumption)
                             have q313 : (ji43) < (yp.length : Int) := of_decide_eq_true (by first | (with_reducible assumption) | assumption)
                             obtain ⟨ad313, e313, hx313_0⟩ := Kd.at_int (part_C HO_10.out HAo.out HAd.out Hspl.out Hle.out) (ji43) p313 q313; obtain rfl : ad308 = ad313 := (by injection e313); replace p313 := eq_true p313; replace q313 := eq_true q313; refine start_ (n := 24) (S := fun w' => w'.cell? (ad310.add ((ji43)).toNat) = some (.int .i64 (rd y290 (ji43))) ∧ w'.cell? (ad310.add ((ji13)).toNat) = some (.int .i64 (rd y290 (ji13))) ∧ w'.cell? (ad308.add ((ji43)).toNat) = some (.int .i64 (rd yp (ji43)))) (ds := []) (bl_ 24 0) (by kernel_rfl) rfl rfl ⟨hw311_0, hw312_0, hx313_0⟩ (fun hHeld => ?_); refine with_tabW impl_natDiv.tab16 impl_natDiv.bits16 (fun HT_ HW_ => ?_)
                             generalize wr.drew = w58 at HO_10 HO_12 HO_9 HB hx311_0 hx312_0 hx313_0 hHeld ⊢
                             refine pu_ 0 96 (bl_ 24 1) rfl rfl HT_ ?_; refine pu_ 1 97 (bl_ 24 3) rfl rfl HT_ ?_; refine pu_ 2 98 (bl_ 24 7) rfl rfl HT_ ?_; refine pu_ 3 99 (bl_ 24 15) rfl rfl HT_ ?_; refine pu_ 4 100 (bl_ 24 31) rfl rfl HT_ ?_; refine pu_ 7 103 (bl_ 24 159) rfl rfl HT_ ?_; refine pu_ 8 104 (bl_ 24 415) rfl rfl HT_ ?_; refine pu_ 9 105 (bl_ 24 927) rfl rfl HT_ ?_; refine pu_ 10 106 (bl_ 24 1951) rfl rfl HT_ ?_; refine pu_ 11 107 (bl_ 24 3999) rfl rfl HT_ ?_; refine pu_ 12 108 (bl_ 24 8095) rfl rfl HT_ ?_; refine pu_ 17 113 (bl_ 24 139167) rfl rfl HT_ ?_; refine pu_ 18 114 (bl_ 24 401311) rfl rfl HT_ ?_; refine pu_ 19 115 (bl_ 24 925599) rfl rfl HT_ ?_; refine pu_ 20 116 (bl_ 24 1974175) rfl rfl HT_ ?_; refine tk_ 5 101 (bl_ 24 1974207) rfl rfl HT_ HW_ hHeld (by rintro w' ⟨s0, s1, s2⟩; go_simp; with_reducible rfl) ?_; refine pu_ 6 102 (bl_ 24 1974271) rfl rfl HT_ ?_; refine tk_ 13 109 (bl_ 24 1982463) rfl rfl HT_ HW_ hHeld (by rintro w' ⟨s0, s1, s2⟩; go_simp; with_reducible rfl) ?_; refine pu_ 14 110 (bl_ 24 1998847) rfl rfl HT_ ?_; refine pu_ 15 111 (bl_ 24 2031615) rfl rfl HT_ ?_; refine pu_ 16 112 (bl_ 24 2097151) rfl rfl HT_ ?_; refine tk_ 21 117 (bl_ 24 4194303) rfl rfl HT_ HW_ hHeld (by rintro w' ⟨s0, s1, s2⟩; go_simp; with_reducible rfl) ?_; refine pu_ 22 118 (bl_ 24 8388607) rfl rfl HT_ ?_; refine pu_ 23 119 (bl_ 24 16777215) rfl rfl HT_ ?_; refine done_ (done_of HT_.out (by kernel_rfl)) ?_
                             try go_wp2_with (first | ((with_reducible refine gate_callee (f := 86) rfl ?_); refine gl_ 125 rfl rfl Try.func86 #[.slice (some ad308) yp.length (co29 - x13_1.toNat), (.slice (some ad310) y290.length co28), .int .i64 x16_2] rfl ?_; (with_reducible refine (impl_takeAway.ata k2 (fun k_ => some k_ = (.slice Ao29 x10_1.length co29 : Value).ownBlock) Ao29 ad308 gr_ co29 x13_1.toNat (co29 - x13_1.toNat) yp.length HAo.out HAd.out x10_1 yp rfl _ _ y290 x16_2 true t315 w _ ?side1 Hle.out ?side2 ?side3 ?side4 A52.out).mono ?_); (case side1 => repeat (first | (with_reducible first | exact HB.out | apply below_alloc | apply pw_below_drewN | apply below_drew1) | exact HB.out)); (case side2 => exact part_R (Kd.R_tight rfl HO_10.out) Hspl.out); (case side3 => exact cut_kept HO_9.out (fun k_ hk_ hs_ => far9_1 hk_ _ _ hs_) Ny290.out KL27.out); (case side4 => exact HC293.out); rintro e w59 ⟨rfl, hlen_, hy0, hb, hkp⟩; refine ⟨_, rfl, ?_⟩; replace HO_10 := Aside0.mk (Kd.R_reok rfl hy0 (fun k_ e_ => HO_10.out.1 k_ e_)); have HL1 := Aside0.mk hlen_; have Hle1 := Aside0.mk (show x13_1.toNat + t315.length ≤ x10_1.length by rw [hlen_]; exact Hle.out); clear hlen_;  replace HO_12 := Aside0.mk (Kd.R_mono (ok' := fun k_ => some k_ ≠ (.slice Ao29 x10_1.length co29 : Value).ownBlock) (Kd.R_keptB (HO_12.out) hkp (fun k_ hk_ hs_ => (hk_) hs_)) (fun k_ hk_ => hk_.1)); replace HO_9 := Aside0.mk (Kd.R_mono (ok' := far9 Ao29 Ao32) (Kd.R_keptB (HO_9.out) hkp (fun k_ hk_ hs_ => far9_1 hk_ _ _ hs_)) (fun k_ hk_ => hk_.1)); replace HB := Aside0.mk hb; (try clear hb); (try clear hkp); (try clear hy0)) | ((with_reducible refine gate_callee (f := 87) rfl ?_); refine gl_ 130 rfl rfl Try.func87 #[.slice (some ad308) yp.length (co29 - x13_1.toNat), (.slice (some ad310) y290.length co28)] rfl ?_; (with_reducible refine (impl_giveBack.ata k2 (fun k_ => some k_ = (.slice Ao29 x10_1.length co29 : Value).ownBlock) Ao29 ad308 gr_ co29 x13_1.toNat (co29 - x13_1.toNat) yp.length HAo.out HAd.out x10_1 t315 HL1.out _ _ y290 t316 w _ ?side1 Hle1.out ?side2 ?side3 ?side4 A54.out).mono ?_); (case side1 => repeat (first | (with_reducible first | exact HB.out | apply below_alloc | apply pw_below_drewN | apply below_drew1) | exact HB.out)); (case side2 => exact Kd.R_tight rfl HO_10.out); (case side3 => exact cut_kept HO_9.out (fun k_ hk_ hs_ => far9_1 hk_ _ _ hs_) Ny290.out KL27.out); (case side4 => exact HC293.out); rintro e w60 ⟨rfl, hlen_, hy0, hb, hkp⟩; refine ⟨_, rfl, ?_⟩; replace HO_10 := Aside0.mk (Kd.R_reok rfl hy0 (fun k_ e_ => HO_10.out.1 k_ e_)); clear hlen_;  replace HO_12 := Aside0.mk (Kd.R_mono (ok' := fun k_ => some k_ ≠ (.slice Ao29 x10_1.length co29 : Value).ownBlock) (Kd.R_keptB (HO_12.out) hkp (fun k_ hk_ hs_ => (hk_) hs_)) (fun k_ hk_ => hk_.1)); replace HO_9 := Aside0.mk (Kd.R_mono (ok' := far9 Ao29 Ao32) (Kd.R_keptB (HO_9.out) hkp (fun k_ hk_ hs_ => far9_1 hk_ _ _ hs_)) (fun k_ hk_ => hk_.1)); replace HB := Aside0.mk hb; (try clear hb); (try clear hkp); (try clear hy0); have p57 : 0 ≤ (x13_1 : Int) := of_decide_eq_true (by first | (with_reducible assumption) | assumption); have q57 : (x13_1 : Int) < ((x12_1.length : Int) : Int) := of_decide_eq_true (by first | (with_reducible assumption) | assumption); obtain ⟨go57, co57, eo57, gb57, gl57, cl57, HG57⟩ := Kd.R_form HO_12.out (by omega); (first | cases eo57 | (injection eo57 with ea_ en_ ec_; (first | subst ea_ | (injection ea_ with ea_; subst ea_)); subst ec_; clear en_)); have GB57 := Aside0.mk gb57; have GG57 := Aside0.mk HG57; clear gb57 gl57 HG57; obtain ⟨hx57_0, hf57_0⟩ := Kd.R_celln 0 HO_12.out (x13_1 : Int) p57 q57; replace p57 := eq_true p57; replace q57 := eq_true q57; obtain ⟨hy61_, hz61_⟩ := Kd.R_celln 0 HO_12.out (x13_1 : Int) (of_decide_eq_true (by first | (with_reducible assumption) | assumption)) (of_decide_eq_true (by first | (with_reducible assumption) | assumption)); have HP61 := Kd.R_putg HO_12.out (x13_1 : Int) (wrap64 (x16_2 - 1))) | ((with_reducible refine gate_store (t := 3) (p := 134) rfl ?_); refine store_event (t := 3) (p := 134) (v := ?vo_w62) (w1 := (w60.setCell ⟨go57, (x13_1 : Int).toNat, none⟩ (.int .i64 (wrap64 (x16_2 - 1))))) ?hg ?ho ?hn ?hr ?_; (case ho => rfl); (case hg => rfl); (case hn => rfl); (case hr => first | (go_simp; done) | (go_simp; rfl)); intro w62 hw; have hg : w60.grownBy w62 (some go57) := (by rw [hw]; exact HP61.2); have hp_ : Kd.R (Kd.int .i64) 3 w62 w.heap.size (fun k_ => some k_ ≠ (.slice Ao29 x10_1.length co29 : Value).ownBlock) (.slice (some ⟨go57, 0, none⟩) x12_1.length co32) y317 := (by rw [hw, Ny317.out]; exact HP61.1); clear HP61; have n0_ := Aside0.mk (Kd.R_after (v := (.slice (some ⟨go57, 0, none⟩) x12_1.length co32)) (v1 := (.slice (some ⟨go57, 0, none⟩) x12_1.length co32)) (ok := (fun _ => True)) (by (with_reducible repeat (first | apply Kd.R_alloc | apply Kd.R_drewN | apply Kd.R_drew)); exact Kd.R_mono HO_10.out (fun _ hk => ⟨trivial, hk⟩)) hg (.inl rfl)); have n1_ := Aside0.mk hp_; have n9_ := Aside0.mk (Kd.R_mono (ok' := far9 Ao29 (some ⟨go57, 0, none⟩)) (Kd.R_after (v := (.slice (some ⟨go57, 0, none⟩) x12_1.length co32)) (v1 := (.slice (some ⟨go57, 0, none⟩) x12_1.length co32)) (ok := (fun k_ => some k_ ≠ (Value.slice Ao29 0 0).ownBlock)) (by (with_reducible repeat (first | apply Kd.R_alloc | apply Kd.R_drewN | apply Kd.R_drew)); exact Kd.R_mono HO_9.out (fun _ hk => ⟨far9_1 hk 0 0, far9_2 hk _ _⟩)) hg (.inl rfl)) (fun _ hk => far9_mk 0 0 _ _ hk.1 hk.2)); have n2_ := Aside0.mk ((by rw [hw]; exact below_set (HB.out) GB57.out : Below w.heap.size w w62)); clear HO_10; clear HO_12; clear HO_9; clear HB; have HO_10 := n0_; have HO_12 := n1_; have HO_9 := n9_; have HB := n2_; clear n0_ n1_ n2_ n9_; clear hg hw hp_))
                             (try simp only [← hl10_1, ← hl12_1])
                             go_roundg k2
                             case measure => have := HK1.out; have := HK2.out; omega
                             case rel => exact ⟨(spl x10_1 x13_1.toNat t316), (y317), (wrap64 (x13_1 - 1)), (by first | rfl | (simp; done) | (simp [*]; done)), H', ⟨by have := HK1.out; have := HK2.out; omega⟩, ⟨by (try simp only [hl10_1]); (try simp only [hl12_1]); (with_reducible repeat (first | apply Kd.R_alloc | apply Kd.R_drewN | apply Kd.R_drew)); exact Kd.R_mono HO_10.out (fun _ hk => hk.2)⟩, ⟨by (try simp only [hl10_1]); (try simp only [hl12_1]); (with_reducible repeat (first | apply Kd.R_alloc | apply Kd.R_drewN | apply Kd.R_drew)); exact HO_12.out⟩, ⟨by (with_reducible repeat (first | apply Kd.R_alloc | apply Kd.R_drewN | apply Kd.R_drew)); exact HO_9.out⟩, ⟨bw_ HB⟩⟩
                            · rw [if_neg c56] at H; exact absurd H (by simp)
                           · rw [if_neg c55] at H; exact absurd H (by simp)
                          ·
                           replace c53 := Bool.eq_false_iff.mpr c53; subst c53
                           rw [if_neg (show ¬ (false = true) by decide)] at H
                           by_cases c63 : 0 ≤ x13_1
                           ·
                            rw [if_pos c63] at H
                            have c63b0 : decide (0 ≤ x13_1) = true := decide_eq_true c63
                            clear c63
                            by_cases c64 : x13_1 < (x12_1.length : Int)
                            ·
                             rw [if_pos c64] at H
                             have c64b0 : decide (x13_1 < (x12_1.length : Int)) = true := decide_eq_true c64
                             clear c64; obtain ⟨y318, hy318⟩ : ∃ y_ : List Int, y_ = (x12_1.set (x13_1 : Int).toNat x16_2) := ⟨_, rfl⟩
                             replace H : (impl_natDiv.l0 k2 (l1.length : Int) (wrap64 (16 - t283)) (spl x10_1 x13_1.toNat t315) y290 y318 (wrap64 (x13_1 - 1))) = some (r1, r2) := by first | (rw [hy318]; with_reducible exact H) | (have H2_ := (Option.bind_some _ _).symm.trans H; rw [hy318]; with_reducible exact H2_) | (have H2_ := (Option.bind_some _ _).symm.trans H; with_reducible exact H2_) | with_reducible exact H | (rw [hy318]; exact H) | exact H
                             have Ny318 := Aside0.mk hy318; clear hy318
                             have H' := Aside0.mk H
                             clear H
                             try go_wp2
                             replace HO_10 := Aside0.mk (Kd.R_drew HO_10.out); replace HO_12 := Aside0.mk (Kd.R_drew HO_12.out); replace HO_9 := Aside0.mk (Kd.R_drew HO_9.out); replace HB := Aside0.mk (below_drew1 HB.out)
                             have p311 : 0 ≤ ((ji43) : Int) := of_decide_eq_true (by first | (with_reducible assumption) | assumption)
                             have q311 : (ji43) < (y290.length : Int) := of_decide_eq_true (by first | (with_reducible assumption) | assumption)
                             obtain ⟨ad311, e311, hx311_0⟩ := Kd.at_int (cut_C HO_9.out Ny290.out KL27.out) (ji43) p311 q311; have hw311_0 := hx311_0; obtain rfl : ad310 = ad311 := (by injection e311); replace p311 := eq_true p311; replace q311 := eq_true q311
                             have p312 : 0 ≤ ((ji13) : Int) := of_decide_eq_true (by first | (with_reducible assumption) | assumption)
                             have q312 : (ji13) < (y290.length : Int) := of_decide_eq_true (by first | (with_reducible assumption) | assumption)
                             obtain ⟨ad312, e312, hx312_0⟩ := Kd.at_int (cut_C HO_9.out Ny290.out KL27.out) (ji13) p312 q312; have hw312_0 := hx312_0; obtain rfl : ad310 = ad312 := (by injection e312); replace p312 := eq_true p312; replace q312 := eq_true q312
                             have p313 : 0 ≤ ((ji43) : Int) := of_decide_eq_true (by first | (with_reducible assumption) | assumption)
                             have q313 : (ji43) < (yp.length : Int) := of_decide_eq_true (by first | (with_reducible assumption) | assumption)
                             obtain ⟨ad313, e313, hx313_0⟩ := Kd.at_int (part_C HO_10.out HAo.out HAd.out Hspl.out Hle.out) (ji43) p313 q313; obtain rfl : ad308 = ad313 := (by injection e313); replace p313 := eq_true p313; replace q313 := eq_true q313; refine start_ (n := 24) (S := fun w' => w'.cell? (ad310.add ((ji43)).toNat) = some (.int .i64 (rd y290 (ji43))) ∧ w'.cell? (ad310.add ((ji13)).toNat) = some (.int .i64 (rd y290 (ji13))) ∧ w'.cell? (ad308.add ((ji43)).toNat) = some (.int .i64 (rd yp (ji43)))) (ds := []) (bl_ 24 0) (by kernel_rfl) rfl rfl ⟨hw311_0, hw312_0, hx313_0⟩ (fun hHeld => ?_); refine with_tabW impl_natDiv.tab16 impl_natDiv.bits16 (fun HT_ HW_ => ?_)
                             generalize wr.drew = w66 at HO_10 HO_12 HO_9 HB hx311_0 hx312_0 hx313_0 hHeld ⊢
                             refine pu_ 0 96 (bl_ 24 1) rfl rfl HT_ ?_; refine pu_ 1 97 (bl_ 24 3) rfl rfl HT_ ?_; refine pu_ 2 98 (bl_ 24 7) rfl rfl HT_ ?_; refine pu_ 3 99 (bl_ 24 15) rfl rfl HT_ ?_; refine pu_ 4 100 (bl_ 24 31) rfl rfl HT_ ?_; refine pu_ 7 103 (bl_ 24 159) rfl rfl HT_ ?_; refine pu_ 8 104 (bl_ 24 415) rfl rfl HT_ ?_; refine pu_ 9 105 (bl_ 24 927) rfl rfl HT_ ?_; refine pu_ 10 106 (bl_ 24 1951) rfl rfl HT_ ?_; refine pu_ 11 107 (bl_ 24 3999) rfl rfl HT_ ?_; refine pu_ 12 108 (bl_ 24 8095) rfl rfl HT_ ?_; refine pu_ 17 113 (bl_ 24 139167) rfl rfl HT_ ?_; refine pu_ 18 114 (bl_ 24 401311) rfl rfl HT_ ?_; refine pu_ 19 115 (bl_ 24 925599) rfl rfl HT_ ?_; refine pu_ 20 116 (bl_ 24 1974175) rfl rfl HT_ ?_; refine tk_ 5 101 (bl_ 24 1974207) rfl rfl HT_ HW_ hHeld (by rintro w' ⟨s0, s1, s2⟩; go_simp; with_reducible rfl) ?_; refine pu_ 6 102 (bl_ 24 1974271) rfl rfl HT_ ?_; refine tk_ 13 109 (bl_ 24 1982463) rfl rfl HT_ HW_ hHeld (by rintro w' ⟨s0, s1, s2⟩; go_simp; with_reducible rfl) ?_; refine pu_ 14 110 (bl_ 24 1998847) rfl rfl HT_ ?_; refine pu_ 15 111 (bl_ 24 2031615) rfl rfl HT_ ?_; refine pu_ 16 112 (bl_ 24 2097151) rfl rfl HT_ ?_; refine tk_ 21 117 (bl_ 24 4194303) rfl rfl HT_ HW_ hHeld (by rintro w' ⟨s0, s1, s2⟩; go_simp; with_reducible rfl) ?_; refine pu_ 22 118 (bl_ 24 8388607) rfl rfl HT_ ?_; refine pu_ 23 119 (bl_ 24 16777215) rfl rfl HT_ ?_; refine done_ (done_of HT_.out (by kernel_rfl)) ?_
                             try go_wp2_with (first | ((with_reducible refine gate_callee (f := 86) rfl ?_); refine gl_ 125 rfl rfl Try.func86 #[.slice (some ad308) yp.length (co29 - x13_1.toNat), (.slice (some ad310) y290.length co28), .int .i64 x16_2] rfl ?_; (with_reducible refine (impl_takeAway.ata k2 (fun k_ => some k_ = (.slice Ao29 x10_1.length co29 : Value).ownBlock) Ao29 ad308 gr_ co29 x13_1.toNat (co29 - x13_1.toNat) yp.length HAo.out HAd.out x10_1 yp rfl _ _ y290 x16_2 false t315 w _ ?side1 Hle.out ?side2 ?side3 ?side4 A52.out).mono ?_); (case side1 => repeat (first | (with_reducible first | exact HB.out | apply below_alloc | apply pw_below_drewN | apply below_drew1) | exact HB.out)); (case side2 => exact part_R (Kd.R_tight rfl HO_10.out) Hspl.out); (case side3 => exact cut_kept HO_9.out (fun k_ hk_ hs_ => far9_1 hk_ _ _ hs_) Ny290.out KL27.out); (case side4 => exact HC293.out); rintro e w67 ⟨rfl, hlen_, hy0, hb, hkp⟩; refine ⟨_, rfl, ?_⟩; replace HO_10 := Aside0.mk (Kd.R_reok rfl hy0 (fun k_ e_ => HO_10.out.1 k_ e_)); have HL1 := Aside0.mk hlen_; have Hle1 := Aside0.mk (show x13_1.toNat + t315.length ≤ x10_1.length by rw [hlen_]; exact Hle.out); clear hlen_;  replace HO_12 := Aside0.mk (Kd.R_mono (ok' := fun k_ => some k_ ≠ (.slice Ao29 x10_1.length co29 : Value).ownBlock) (Kd.R_keptB (HO_12.out) hkp (fun k_ hk_ hs_ => (hk_) hs_)) (fun k_ hk_ => hk_.1)); replace HO_9 := Aside0.mk (Kd.R_mono (ok' := far9 Ao29 Ao32) (Kd.R_keptB (HO_9.out) hkp (fun k_ hk_ hs_ => far9_1 hk_ _ _ hs_)) (fun k_ hk_ => hk_.1)); replace HB := Aside0.mk hb; (try clear hb); (try clear hkp); (try clear hy0); have p65 : 0 ≤ (x13_1 : Int) := of_decide_eq_true (by first | (with_reducible assumption) | assumption); have q65 : (x13_1 : Int) < ((x12_1.length : Int) : Int) := of_decide_eq_true (by first | (with_reducible assumption) | assumption); obtain ⟨go65, co65, eo65, gb65, gl65, cl65, HG65⟩ := Kd.R_form HO_12.out (by omega); (first | cases eo65 | (injection eo65 with ea_ en_ ec_; (first | subst ea_ | (injection ea_ with ea_; subst ea_)); subst ec_; clear en_)); have GB65 := Aside0.mk gb65; have GG65 := Aside0.mk HG65; clear gb65 gl65 HG65; obtain ⟨hx65_0, hf65_0⟩ := Kd.R_celln 0 HO_12.out (x13_1 : Int) p65 q65; replace p65 := eq_true p65; replace q65 := eq_true q65; obtain ⟨hy68_, hz68_⟩ := Kd.R_celln 0 HO_12.out (x13_1 : Int) (of_decide_eq_true (by first | (with_reducible assumption) | assumption)) (of_decide_eq_true (by first | (with_reducible assumption) | assumption)); have HP68 := Kd.R_putg HO_12.out (x13_1 : Int) x16_2) | ((with_reducible refine gate_store (t := 3) (p := 134) rfl ?_); refine store_event (t := 3) (p := 134) (v := ?vo_w69) (w1 := (w67.setCell ⟨go65, (x13_1 : Int).toNat, none⟩ (.int .i64 x16_2))) ?hg ?ho ?hn ?hr ?_; (case ho => rfl); (case hg => rfl); (case hn => rfl); (case hr => first | (go_simp; done) | (go_simp; rfl)); intro w69 hw; have hg : w67.grownBy w69 (some go65) := (by rw [hw]; exact HP68.2); have hp_ : Kd.R (Kd.int .i64) 3 w69 w.heap.size (fun k_ => some k_ ≠ (.slice Ao29 x10_1.length co29 : Value).ownBlock) (.slice (some ⟨go65, 0, none⟩) x12_1.length co32) y318 := (by rw [hw, Ny318.out]; exact HP68.1); clear HP68; have n0_ := Aside0.mk (Kd.R_after (v := (.slice (some ⟨go65, 0, none⟩) x12_1.length co32)) (v1 := (.slice (some ⟨go65, 0, none⟩) x12_1.length co32)) (ok := (fun _ => True)) (by (with_reducible repeat (first | apply Kd.R_alloc | apply Kd.R_drewN | apply Kd.R_drew)); exact Kd.R_mono HO_10.out (fun _ hk => ⟨trivial, hk⟩)) hg (.inl rfl)); have n1_ := Aside0.mk hp_; have n9_ := Aside0.mk (Kd.R_mono (ok' := far9 Ao29 (some ⟨go65, 0, none⟩)) (Kd.R_after (v := (.slice (some ⟨go65, 0, none⟩) x12_1.length co32)) (v1 := (.slice (some ⟨go65, 0, none⟩) x12_1.length co32)) (ok := (fun k_ => some k_ ≠ (Value.slice Ao29 0 0).ownBlock)) (by (with_reducible repeat (first | apply Kd.R_alloc | apply Kd.R_drewN | apply Kd.R_drew)); exact Kd.R_mono HO_9.out (fun _ hk => ⟨far9_1 hk 0 0, far9_2 hk _ _⟩)) hg (.inl rfl)) (fun _ hk => far9_mk 0 0 _ _ hk.1 hk.2)); have n2_ := Aside0.mk ((by rw [hw]; exact below_set (HB.out) GB65.out : Below w.heap.size w w69)); clear HO_10; clear HO_12; clear HO_9; clear HB; have HO_10 := n0_; have HO_12 := n1_; have HO_9 := n9_; have HB := n2_; clear n0_ n1_ n2_ n9_; clear hg hw hp_))
                             (try simp only [← hl10_1, ← hl12_1])
                             go_roundg k2
                             case measure => have := HK1.out; have := HK2.out; omega
                             case rel => exact ⟨(spl x10_1 x13_1.toNat t315), (y318), (wrap64 (x13_1 - 1)), (by first | rfl | (simp; done) | (simp [*]; done)), H', ⟨by have := HK1.out; have := HK2.out; omega⟩, ⟨by (try simp only [hl10_1]); (try simp only [hl12_1]); (with_reducible repeat (first | apply Kd.R_alloc | apply Kd.R_drewN | apply Kd.R_drew)); exact Kd.R_mono HO_10.out (fun _ hk => hk.2)⟩, ⟨by (try simp only [hl10_1]); (try simp only [hl12_1]); (with_reducible repeat (first | apply Kd.R_alloc | apply Kd.R_drewN | apply Kd.R_drew)); exact HO_12.out⟩, ⟨by (with_reducible repeat (first | apply Kd.R_alloc | apply Kd.R_drewN | apply Kd.R_drew)); exact HO_9.out⟩, ⟨bw_ HB⟩⟩
                            · rw [if_neg c64] at H; exact absurd H (by simp)
                           · rw [if_neg c63] at H; exact absurd H (by simp)
                        · rw [if_neg c49] at H; exact absurd H (by simp)
                       · rw [if_neg c48] at H; exact absurd H (by simp)
                      · rw [if_neg c47] at H; exact absurd H (by simp)
                     · rw [if_neg c45] at H; exact absurd H (by simp)
                    · rw [if_neg c44] at H; exact absurd H (by simp)
                · rw [if_neg c39] at H; exact absurd H (by simp)
               · rw [if_neg c38] at H; exact absurd H (by simp)
              · rw [if_neg c37] at H; exact absurd H (by simp)
             · rw [if_neg c35] at H; exact absurd H (by simp)
            · rw [if_neg c34] at H; exact absurd H (by simp)
           ·
            rw [if_neg c33] at H
            have c33b0 : decide (0 ≤ x13_1) = false := decide_eq_false c33
            clear c33
            by_cases c70 : 0 ≤ (l1.length : Int)
            ·
             rw [if_pos c70] at H; have c70b0 := eq_true c70
             have c70b1 : decide (0 ≤ (l1.length : Int)) = true := decide_eq_true c70
             clear c70
             by_cases c71 : (l1.length : Int) ≤ (x10_1.length : Int)
             ·
              rw [if_pos c71] at H; have c71b0 := eq_true c71
              have c71b1 : decide ((l1.length : Int) ≤ (x10_1.length : Int)) = true := decide_eq_true c71
              clear c71; obtain ⟨y297, hy297⟩ : ∃ y_ : List Int, y_ = (x10_1.take ((l1.length : Int) : Int).toNat) := ⟨_, rfl⟩
              replace H : ((impl_trimmed.f k1 y297).bind fun t300 => (if 0 ≤ (wrap64 (16 - t283)) then ((impl_byDigit.f k1 t300 (shl .i64 1 (wrap64 (16 - t283)))).bind fun bt301 => ((impl_trimmed.f k1 x12_1).bind fun t305 => (some (t305, bt301.1)))) else (none))) = some (r1, r2) := by first | (rw [hy297]; with_reducible exact H) | (have H2_ := (Option.bind_some _ _).symm.trans H; rw [hy297]; with_reducible exact H2_) | (have H2_ := (Option.bind_some _ _).symm.trans H; with_reducible exact H2_) | with_reducible exact H | (rw [hy297]; exact H) | exact H
              have Ny297 := Aside0.mk hy297; clear hy297; obtain ⟨t300, A740, H⟩ := pb_ H; have A74 := Aside0.mk A740; clear A740; obtain ⟨ji72, hji72⟩ : ∃ j_ : Int, (wrap64 (16 - t283)) = j_ := ⟨_, rfl⟩
              replace H : (if 0 ≤ (ji72) then ((impl_byDigit.f k1 t300 (shl .i64 1 (ji72))).bind fun bt301 => ((impl_trimmed.f k1 x12_1).bind fun t305 => (some (t305, bt301.1)))) else (none)) = some (r1, r2) := by first | (rw [hji72] at H; exact H) | (simp only [hji72] at H ⊢; exact H)
              have hji72w : (IntKind.i64.wrap (16 - t283)) = ji72 := (i64_w _).trans hji72
              by_cases c73 : 0 ≤ (ji72)
              ·
               rw [if_pos c73] at H; have c73b0 := eq_true c73
               have c73b1 : decide (0 ≤ (ji72)) = true := decide_eq_true c73
               clear c73; obtain ⟨ji74, hji74⟩ : ∃ j_ : Int, (shl .i64 1 (ji72)) = j_ := ⟨_, rfl⟩
               replace H : ((impl_byDigit.f k1 t300 (ji74)).bind fun bt301 => ((impl_trimmed.f k1 x12_1).bind fun t305 => (some (t305, bt301.1)))) = some (r1, r2) := by first | (rw [hji74] at H; exact H) | (simp only [hji74] at H ⊢; exact H)
               have hji74_ : (IntKind.i64.wrap (1 * 2 ^ min (ji72).toNat 64)) = ji74 := hji74
               have hji74z : (ji72) ≤ 64 → (IntKind.i64.wrap (1 * 2 ^ (ji72).toNat)) = ji74 := shl_small hji74
               have hji74u : (IntKind.i64.wrap (2 ^ min (ji72).toNat 64)) = ji74 := by have h_ := hji74_; rw [Int.one_mul] at h_; exact h_
               have hji74v : (ji72) ≤ 64 → (IntKind.i64.wrap (2 ^ (ji72).toNat)) = ji74 := fun hle_ => by have h_ := hji74z hle_; rw [Int.one_mul] at h_; exact h_
               have hji74y : (wrap64 (1 * 2 ^ min (ji72).toNat 64)) = ji74 := (i64_w _).symm.trans hji74_
               have hji74x : (ji72) ≤ 64 → (wrap64 (1 * 2 ^ (ji72).toNat)) = ji74 := fun h_ => (i64_w _).symm.trans (hji74z h_)
               obtain ⟨⟨t301, t302⟩, A750, H⟩ := pb_ H; have A75 := Aside0.mk A750; clear A750; obtain ⟨t305, A760, H⟩ := pb_ H
               have A76 := Aside0.mk A760; clear A760
               simp only [Option.some.injEq, Prod.mk.injEq] at H
               obtain ⟨rfl, rfl⟩ := H
               try go_wp2
               replace HO_10 := Aside0.mk (Kd.R_drew HO_10.out); replace HO_12 := Aside0.mk (Kd.R_drew HO_12.out); replace HO_9 := Aside0.mk (Kd.R_drew HO_9.out); replace HB := Aside0.mk (below_drew1 HB.out)
               have q78 : ((l1.length : Int) : Int) ≤ ((x10_1.length : Int) : Int) := of_decide_eq_true (by first | (with_reducible assumption) | assumption)
               obtain ⟨i078, hi078, _, hsz78, _⟩ := info_parts info3
               have hroom78 : x10_1.length ≤ co29 := (Kd.R_reads' HO_10.out).2.1
               have hC78 : Kd.C (Kd.int .i64) _ Ao29 x10_1.length x10_1 := (Kd.R_reads' HO_10.out).2.2
               have hcut78 := cut_to (P := Try.prog) 22 3 .i64 Try.underlying22 hi078 Ao29 x10_1.length co29 (l1.length : Int) (of_decide_eq_true (by first | (with_reducible assumption) | assumption)) q78 hroom78; have hr78 := Kd.C_take (m := ((l1.length : Int) : Int).toNat) hC78 (by omega)
               have hy78 : y297.length = ((l1.length : Int) : Int).toNat := (by rw [Ny297.out, List.length_take]; omega)
               rw [← Ny297.out] at hr78
               rw [← hy78] at hcut78
               have HR300 := Aside0.mk hr78; have HC300 := Aside0.mk (show y297.length ≤ co29 from by omega); clear hr78 hC78 hroom78 hi078 hsz78; have KY78 := Aside0.mk hy78; clear hy78; have KL78 := Aside0.mk (show ((l1.length : Int) : Int).toNat ≤ x10_1.length from by omega); replace q78 := eq_true q78; refine start_ (n := 12) (S := fun w' => True) (ds := []) (bl_ 12 0) (by kernel_rfl) rfl rfl trivial (fun hHeld => ?_); refine with_tabW impl_natDiv.tab22 impl_natDiv.bits22 (fun HT_ HW_ => ?_)
               generalize wr.drew = w77 at HO_10 HO_12 HO_9 HB HR300 hHeld ⊢
               refine pu_ 0 136 (bl_ 12 1) rfl rfl HT_ ?_; refine pu_ 1 137 (bl_ 12 3) rfl rfl HT_ ?_; refine pu_ 2 138 (bl_ 12 7) rfl rfl HT_ ?_; refine pu_ 4 140 (bl_ 12 23) rfl rfl HT_ ?_; refine pu_ 5 141 (bl_ 12 55) rfl rfl HT_ ?_; refine one_ (i := 3) (N := some 139) (bl_ 12 63) rfl rfl (one_of HT_.out (by kernel_rfl)) (by decide) (fun K hK => ?_); refine gs_ Try.func88 #[.slice Ao29 y297.length co29] ?_
               with_reducible refine (impl_trimmed.calls k1 (fun k_ => some k_ = (.slice Ao29 x10_1.length co29 : Value).ownBlock) (.slice Ao29 y297.length co29) y297 t300 w _ ?side1 ?side2 A74.out).mono ?_
               (case side1 => repeat (first | (with_reducible first | exact HB.out | apply below_alloc | apply pw_below_drewN | apply below_drew1) | exact HB.out))
               (case side2 => exact cut_R (Kd.R_tight rfl HO_10.out) Ny297.out KL78.out)
               rintro e w78 ⟨v300, rfl, ho0, hb, hkp⟩; refine ⟨_, rfl, ?_⟩
               have n0_ := Aside0.mk (Kd.R_mono (ok' := fun k_ => some k_ ≠ (.slice Ao32 x12_1.length co32 : Value).ownBlock) ho0 (fun k_ hk_ => Or.elim hk_ (fun hs_ => HO_10.out.1 k_ hs_.symm) (fun hn_ => Kd.fresh' (Kd.R_lt HO_12.out) k_ hn_)))
               have n1_ := Aside0.mk (Kd.R_mono (ok' := fun k_ => some k_ ≠ (v300 : Value).ownBlock) (Kd.R_keptB (HO_12.out) hkp (fun k_ hk_ hs_ => (hk_) hs_)) (fun k_ hk_ => fun e_ => Or.elim (ho0.1 k_ e_.symm) (fun hs_ => hk_.2.1 hs_) (fun hn_ => Nat.not_le.2 hk_.2.2 hn_)))
               have n2_ := Aside0.mk hb
               clear HO_10 HO_12 HB HR300 HC300; have HO_10 := n0_; have HO_12 := n1_; have HB := n2_; clear n0_ n1_ n2_; (try clear hb); (try clear hkp); (try clear ho0)
               obtain ⟨Ao3, co3, eo3⟩ := Kd.R_slice HO_10.out
               subst eo3
               have HR300 := Aside0.mk (Kd.R_reads' HO_10.out).2.2; have HC300 := Aside0.mk (Kd.R_reads' HO_10.out).2.1
               refine hK.out _ _ trivial (fun hHeld => ?_); clear hK K
               apply norm_
               · show Act.put _ (some 139) _ = _; simp only [Act.put, sA_, sZ_, sS_, i64_w, i32_w]; rfl
               refine one_ (i := 6) (N := some 142) (bl_ 12 127) rfl rfl (one_of HT_.out (by kernel_rfl)) (by decide) (fun K hK => ?_); refine goes_ Try.func83 (by kernel_rfl) rfl #[.slice Ao3 t300.length co3, .int .i64 ji74] (by rfl) rfl rfl (by (try simp only [List.map_toArray, List.map_cons, List.map_nil]); first | done | (simp only [hji74]; rfl) | rfl | (simp only [List.length_drop, List.length_take]; rfl)) ?_
               with_reducible refine (impl_byDigit.calls k1 _ _ t300 ji74 t301 t302 _ ?side1 ?side2 A75.out).mono ?_
               (case side1 => repeat (first | exact (by repeat (first | (with_reducible exact HR300.out) | (with_reducible refine Kd.C_alloc ?_ _) | (with_reducible refine Kd.C_drewN ?_ _) | (with_reducible refine Kd.C_drew ?_) | exact HR300.out)) | (with_reducible refine Kd.C_alloc ?_ _) | (with_reducible refine Kd.C_drewN ?_ _) | (with_reducible refine Kd.C_drew ?_)))
               (case side2 => exact HC300.out)
               rintro e w79 ⟨v303, rfl, ho0, hb⟩; refine ⟨_, rfl, ?_⟩; have HO304 := Aside0.mk (Kd.R_lower (Kd.R_new' (Kd.R_new' ho0 (Kd.R_lt (by (with_reducible repeat (first | apply Kd.R_alloc | apply Kd.R_drewN | apply Kd.R_drew)); exact HO_10.out))) (Kd.R_lt (by (with_reducible repeat (first | apply Kd.R_alloc | apply Kd.R_drewN | apply Kd.R_drew)); exact HO_12.out))) (below_size (bw_ HB))); replace HO_10 := Aside0.mk (Kd.R_elder' (by (with_reducible repeat (first | apply Kd.R_alloc | apply Kd.R_drewN | apply Kd.R_drew)); exact HO_10.out) (Kd.R_base ho0) hb); replace HO_12 := Aside0.mk (Kd.R_elder' (by (with_reducible repeat (first | apply Kd.R_alloc | apply Kd.R_drewN | apply Kd.R_drew)); exact HO_12.out) (Kd.R_base ho0) hb); replace HR300 := Aside0.mk (Kd.C_below (by repeat (first | (with_reducible exact HR300.out) | (with_reducible refine Kd.C_alloc ?_ _) | (with_reducible refine Kd.C_drewN ?_ _) | (with_reducible refine Kd.C_drew ?_) | exact HR300.out)) hb); replace HB := bs_ HB hb; (try clear hb); (try clear hk); (try clear ho0); refine hK.out _ _ trivial (fun hHeld => ?_); clear hK K
               apply norm_
               · show Act.put _ (some 142) _ = _; simp only [Act.put, sA_, sZ_, sS_, i64_w, i32_w]; rfl
               refine pu_ 7 135 (bl_ 12 255) rfl rfl HT_ ?_; refine pu_ 8 143 (bl_ 12 511) rfl rfl HT_ ?_; refine pu_ 9 144 (bl_ 12 1023) rfl rfl HT_ ?_; refine pu_ 10 17 (bl_ 12 2047) rfl rfl HT_ ?_; refine pu_ 11 18 (bl_ 12 4095) rfl rfl HT_ ?_; refine done_ (done_of HT_.out (by kernel_rfl)) ?_
               try go_wp2_with (first | ((with_reducible refine gate_callee (f := 88) rfl ?_); refine gl_ 146 rfl rfl Try.func88 #[.slice Ao32 x12_1.length co32] rfl ?_; (with_reducible refine (impl_trimmed.calls k1 (fun k_ => some k_ = (.slice Ao32 x12_1.length co32 : Value).ownBlock) (.slice Ao32 x12_1.length co32) x12_1 t305 w _ ?side1 ?side2 A76.out).mono ?_); (case side1 => repeat (first | (with_reducible first | exact HB.out | apply below_alloc | apply pw_below_drewN | apply below_drew1) | exact HB.out)); (case side2 => exact Kd.R_tight rfl HO_12.out); rintro e w80 ⟨v306, rfl, ho0, hb, hkp⟩; refine ⟨_, rfl, ?_⟩; have n0_ := Aside0.mk (Kd.R_mono (ok' := fun k_ => some k_ ≠ (v303 : Value).ownBlock ∧ some k_ ≠ (v306 : Value).ownBlock) (Kd.R_keptB (HO_10.out) hkp (fun k_ hk_ hs_ => (hk_.1) hs_)) (fun k_ hk_ => ⟨hk_.1.2, fun e_ => Or.elim (ho0.1 k_ e_.symm) (fun hs_ => hk_.2.1 hs_) (fun hn_ => Nat.not_le.2 hk_.2.2 hn_)⟩)); have n1_ := Aside0.mk (Kd.R_mono (ok' := fun k_ => some k_ ≠ (.slice Ao3 t300.length co3 : Value).ownBlock ∧ some k_ ≠ (v306 : Value).ownBlock) (Kd.R_keptB (HO304.out) hkp (fun k_ hk_ hs_ => (hk_.2) hs_)) (fun k_ hk_ => ⟨hk_.1.1.2, fun e_ => Or.elim (ho0.1 k_ e_.symm) (fun hs_ => hk_.2.1 hs_) (fun hn_ => Nat.not_le.2 hk_.2.2 hn_)⟩)); have n2_ := Aside0.mk (Kd.R_mono (ok' := fun k_ => some k_ ≠ (.slice Ao3 t300.length co3 : Value).ownBlock ∧ some k_ ≠ (v303 : Value).ownBlock) ho0 (fun k_ hk_ => ⟨Or.elim hk_ (fun hs_ => fun e_ => (((HO_10.out).1 k_ e_.symm).1) hs_) (fun hn_ => (Kd.fresh' (Kd.R_lt (by (with_reducible repeat (first | apply Kd.R_alloc | apply Kd.R_drewN | apply Kd.R_drew)); exact HO_10.out)) k_ hn_)), Or.elim hk_ (fun hs_ => fun e_ => (((HO304.out).1 k_ e_.symm).2) hs_) (fun hn_ => (Kd.fresh' (Kd.R_lt (by (with_reducible repeat (first | apply Kd.R_alloc | apply Kd.R_drewN | apply Kd.R_drew)); exact HO304.out)) k_ hn_))⟩)); have n3_ := Aside0.mk hb; clear HO_10; clear HO304; clear HB; clear HO_12; have HO_10 := n0_; have HO304 := n1_; have HO307 := n2_; have HB := n3_; clear n0_ n1_ n2_ n3_; (try clear hb); (try clear hkp); (try clear ho0)))
               go_ret2
               exact ⟨_, _, by first | rfl | (simp [errW_none, errW_some] <;> rfl) | (simp only [← hji13, ← hji21, ← hji72, ← hji74]; first | rfl | (simp [errW_none, errW_some] <;> rfl)) | (simp [*, errW_none, errW_some] <;> rfl), by (with_reducible repeat (first | apply Kd.R_alloc | apply Kd.R_drewN | apply Kd.R_drew)); exact Kd.R_mono HO307.out (fun _ hk => hk.2), by (with_reducible repeat (first | apply Kd.R_alloc | apply Kd.R_drewN | apply Kd.R_drew)); exact Kd.R_mono HO304.out (fun _ hk => hk.2), by repeat (first | (with_reducible first | exact HB.out | apply below_alloc | apply pw_below_drewN | apply below_drew1) | exact HB.out)⟩
              · rw [if_neg c73] at H; exact absurd H (by simp)
             · rw [if_neg c71] at H; exact absurd H (by simp)
            · rw [if_neg c70] at H; exact absurd H (by simp)
        · rw [if_neg c23] at H; exact absurd H (by simp)
       · rw [if_neg c22] at H; exact absurd H (by simp)
      · rw [if_neg c20] at H; exact absurd H (by simp)
     · rw [if_neg c19] at H; exact absurd H (by simp)
    · rw [if_neg c15] at H; exact absurd H (by simp)
   · rw [if_neg c14] at H; exact absurd H (by simp)


end Go.Proofs.Ytehdmpfeddieoaa.PFnPowers
