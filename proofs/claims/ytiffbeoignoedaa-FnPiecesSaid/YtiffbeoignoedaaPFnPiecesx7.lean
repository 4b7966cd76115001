-- Written for this claim by a program of this session.
import Derived.Test.YtiffbeoignoedaaPFnPiecesx6
namespace Go.Proofs.Ytiffbeoignoedaa.PFnPieces
open Go.RowKit Go.Proofs.YtiffbeoignoedaaW.PrintWords Go.Proofs.YtiffbeoignoedaaW.PrintLast Go.Proofs.YtiffbeoignoedaaW.PrintMore
attribute [local go_sem] max2_int min2_int max_two min_two max_three min_three max_four min_four   -- for this text's walks alone
set_option linter.unusedVariables false
set_option linter.unusedSimpArgs false
/-- What the operations of a feeding statement have given. -/
def fdFact (H L : List Int) (m : Int) (v0 v1 v2 v3 : Value) : Nat → Value → World → Prop
  | 0, v, _ => v = v0
  | 1, v, _ => v = v1
  | 2, v, _ => v = v2
  | 3, v, _ => v = v3
  | 4, v, W => ∃ Av cv, v = .tuple #[.agg (SV H (.slice Av L.length cv) m), .bool true] ∧ RdB W Av L ∧ L.length ≤ cv
  | 5, v, W => ∃ Av cv, v = .tuple #[.agg (SV H (.slice Av L.length cv) m), .bool true] ∧ RdB W Av L ∧ L.length ≤ cv
  | 6, v, W => ∃ Av cv, v = .agg (SV H (.slice Av L.length cv) m) ∧ RdB W Av L ∧ L.length ≤ cv
  | 7, v, _ => v = .bool true
  | _, _, _ => True
theorem fdFact_keep {H L : List Int} {m : Int} {v0 v1 v2 v3 : Value} {W W' : World} (hk : ∀ A l, RdB W A l → RdB W' A l) (j : Nat) (v : Value) (h : fdFact H L m v0 v1 v2 v3 j v W) : fdFact H L m v0 v1 v2 v3 j v W' := by
  match j, h with
  | 0, h | 1, h | 2, h | 3, h | 7, h => exact h
  | 4, ⟨Av, cv, h1, h2, h3⟩ => exact ⟨Av, cv, h1, hk _ _ h2, h3⟩
  | 5, ⟨Av, cv, h1, h2, h3⟩ => exact ⟨Av, cv, h1, hk _ _ h2, h3⟩
  | 6, ⟨Av, cv, h1, h2, h3⟩ => exact ⟨Av, cv, h1, hk _ _ h2, h3⟩
  | _ + 8, _ => exact trivial
/-- The block that a feeding statement makes (operation 8) and fills (operation 9). -/
def fdBlk (w : World) (base : List (Nat × Array Value × TypeId)) (H L : List Int) (m : Int) (listed : Array Bool) (v8 : Value) (W : World) : Prop :=
  (listed.getD 8 false = false ∧ Arrs w W base) ∨ ∃ g, v8 = .pointer (some ⟨g, 0, none⟩) ∧ ((listed.getD 9 false = false ∧ Arrs w W ((g, SV z8 (.slice none 0 0) 0, 28) :: base)) ∨ (listed.getD 9 false = true ∧ ∃ Av cv, Arrs w W ((g, SV H (.slice Av L.length cv) m, 28) :: base) ∧ RdB W Av L ∧ L.length ≤ cv))
theorem fdBlk.below {w : World} {base : List (Nat × Array Value × TypeId)} {H L : List Int} {m : Int} {listed : Array Bool} {v8 : Value} {W W' : World} (h : fdBlk w base H L m listed v8 W) (hb : Below W.heap.size W W') (i : Nat) (h8 : i ≠ 8) (h9 : i ≠ 9) : fdBlk w base H L m (listed.setIfInBounds i true) v8 W' := by
  unfold fdBlk
  rw [getD_set_ne false h8, getD_set_ne false h9]
  rcases h with ⟨h1, h2⟩ | ⟨g, h1, ⟨h2, h3⟩ | ⟨h2, Av, cv, h3, h4, h5⟩⟩
  · exact .inl ⟨h1, h2.below hb⟩
  · exact .inr ⟨g, h1, .inl ⟨h2, h3.below hb⟩⟩
  · exact .inr ⟨g, h1, .inr ⟨h2, Av, cv, h3.below hb, h4.below hb, h5⟩⟩
theorem fdBlk.none_ {w : World} {base : List (Nat × Array Value × TypeId)} {H L : List Int} {m : Int} {listed : Array Bool} {v8 : Value} {W : World} (h : fdBlk w base H L m listed v8 W) : Arrs w W base := by
  rcases h with ⟨_, h2⟩ | ⟨g, h1, ⟨h2, h3⟩ | ⟨h2, Av, cv, h3, h4, h5⟩⟩
  · exact h2
  · exact h3.drop
  · exact h3.drop
theorem fdBlk.made {w : World} {base : List (Nat × Array Value × TypeId)} {H L : List Int} {m : Int} {listed : Array Bool} {v8 : Value} {W : World} (h : fdBlk w base H L m listed v8 W) (h8 : listed.getD 8 false = false) (h9 : listed.getD 9 false = false) : fdBlk w base H L m (listed.setIfInBounds 8 true) (.pointer (some ⟨W.heap.size, 0, none⟩)) (W.alloc (.cells (SV z8 (.slice none 0 0) 0) 28)) := by
  exact .inr ⟨_, rfl, .inl ⟨by rw [getD_set_ne false (by decide)]; exact h9, h.none_.alloc rfl⟩⟩
theorem fdBlk.open_ {w : World} {base : List (Nat × Array Value × TypeId)} {H L : List Int} {m : Int} {listed : Array Bool} {v8 : Value} {W : World} (h : fdBlk w base H L m listed v8 W) (h8 : listed.getD 8 false = true) (h9 : listed.getD 9 false = false) : ∃ g, v8 = .pointer (some ⟨g, 0, none⟩) ∧ Arrs w W ((g, SV z8 (.slice none 0 0) 0, 28) :: base) := by
  rcases h with ⟨h2, _⟩ | ⟨g, h1, ⟨_, h3⟩ | ⟨h2, _⟩⟩
  · rw [h8] at h2
    cases h2
  · exact ⟨g, h1, h3⟩
  · rw [h9] at h2
    cases h2
theorem fdBlk.end_ {w : World} {base : List (Nat × Array Value × TypeId)} {H L : List Int} {m : Int} {listed : Array Bool} {v8 : Value} {W : World} (h : fdBlk w base H L m listed v8 W) (h8 : listed.getD 8 false = true) (h9 : listed.getD 9 false = true) : ∃ g, v8 = .pointer (some ⟨g, 0, none⟩) ∧ ∃ Av cv, Arrs w W ((g, SV H (.slice Av L.length cv) m, 28) :: base) ∧ RdB W Av L ∧ L.length ≤ cv := by
  rcases h with ⟨h2, _⟩ | ⟨g, h1, ⟨h2, _⟩ | ⟨_, h3⟩⟩
  · rw [h8] at h2
    cases h2
  · rw [h9] at h2
    cases h2
  · exact ⟨g, h1, h3⟩
/-- A whole struct is written: one operation of a region that draws. -/
theorem op_store {P : Program} {ops : Array Oper} {Q : Exit → Act → World → Prop} {i : Nat} {o : Oper} {K : Act → World → Prop} {a : Act} {w : World} (hi : ops[i]? = some o) (hg : o.guard = none) (ty : TypeId) (x y : Operand) (ho : o.op = .store ty x y)
    {g : Nat} {cs old : Array Value} {t : TypeId} (hx : a.eval x = .pointer (some ⟨g, 0, none⟩)) (hy : a.eval y = .agg cs) (hb : w.heap[g]? = some (.cells old t (0, 0))) (hs : (P.info? ty).map (·.size) = some cs.size) (hold : old.size = cs.size) (h1 : cs.all (·.oneCell') = true)
    (h : K (a.put o.dst undef) (w.setRow g cs)) : wpOp P ops Q i K a w := by
  unfold wpOp
  rw [hi]
  have hw : Region.wanted o (yielded ops a.tmps) = true := by unfold Region.wanted; rw [hg]
  show if Region.wanted o (yielded ops a.tmps) = true then _ else _
  rw [if_pos hw]
  exact .inl (wp_store_row ty x y ho g cs hx hy t old hb hs hold h1 h)
theorem Arrs.b {w0 W : World} {xs : List (Nat × Array Value × TypeId)} (h : Arrs w0 W xs) : Below w0.heap.size w0 W := h.1
theorem RdB.c {W : World} {A : Option Addr} {l : List Int} (h : RdB W A l) : Kd.C (Kd.int .u8) W A l.length l := h.1
theorem wanted_of {ops : Array Oper} {o : Oper} {tmps : Array Value} {j : Nat} {b : Bool} (hg : o.guard = some (j, b)) {o2 : Oper} (h2 : ops[j]? = some o2) {t : Tmp} (hd : o2.dst = some t) (hv : tmps[t]? = some (.bool b)) : Region.wanted o (yielded ops tmps) = true := by
  unfold Region.wanted yielded
  rw [hg]
  simp [h2, hd, hv]
theorem wanted_free {ops : Array Oper} {o : Oper} {tmps : Array Value} (hg : o.guard = none) : Region.wanted o (yielded ops tmps) = true := by
  unfold Region.wanted
  rw [hg]
theorem op_load_w {P : Program} {ops : Array Oper} {Q : Exit → Act → World → Prop} {i : Nat} {o : Oper} {K : Act → World → Prop} {a : Act} {w : World} (hi : ops[i]? = some o) (hw : Region.wanted o (yielded ops a.tmps) = true) (ty : TypeId) (x : Operand) (ho : o.op = .load ty x)
    {g : Nat} {cs : Array Value} {t : TypeId} (hx : a.eval x = .pointer (some ⟨g, 0, none⟩)) (hb : w.heap[g]? = some (.cells cs t (0, 0))) {d : TypeDesc} (hu : P.underlying ty = some d) (hd : (match d with | .struct _ | .array _ _ => true | _ => false) = true) (hs : (P.info? ty).map (·.size) = some cs.size)
    (h : K (a.put o.dst (.agg cs)) w) : wpOp P ops Q i K a w := by
  refine op_val_w hi hw (v := .agg cs) (w' := w) ?_ h
  unfold execOp
  simp only [ho, hx, Instr.loadAt, Instr.sureAddr, Sem.run_bind, Sem.run_pure, Result.andThen_ok, run_loadVar_row w g t ty cs (0, 0) d hb hu hd hs]
/-- What the operations of the law's great comparison have given. -/
def shFact (S T : List Int) (c : Nat → Value) : Nat → Value → World → Prop
  | 25, v, W => ∃ Av cv, v = .slice Av S.length cv ∧ RdB W Av S ∧ S.length ≤ cv
  | 38, v, W => ∃ Av cv, v = .slice Av T.length cv ∧ RdB W Av T ∧ T.length ≤ cv
  | j, v, _ => v = c j
theorem shFact_keep {S T : List Int} {c : Nat → Value} {W W' : World} (hk : ∀ A l, RdB W A l → RdB W' A l) (j : Nat) (v : Value) (h : shFact S T c j v W) : shFact S T c j v W' := by
  unfold shFact at h ⊢
  split at h
  · obtain ⟨Av, cv, h1, h2, h3⟩ := h
    exact ⟨Av, cv, h1, hk _ _ h2, h3⟩
  · obtain ⟨Av, cv, h1, h2, h3⟩ := h
    exact ⟨Av, cv, h1, hk _ _ h2, h3⟩
  · exact h
/-- What the operations of the law's last statement give. -/
def mkFact (c : Nat → Value) : Nat → Value → World → Prop := fun j v _ => v = c j
theorem mkFact_keep {c : Nat → Value} {W W' : World} (hk : ∀ A l, RdB W A l → RdB W' A l) (j : Nat) (v : Value) (h : mkFact c j v W) : mkFact c j v W' := h
def tab16 (s12 sc s14 s16 mh : Value) : Nat → Value
  | 5 => s12
  | 6 => sc
  | 7 | 9 => mh
  | 8 => s14
  | 16 => s16
  | 17 => .int .i64 32
  | _ => .bool true
theorem maskCat_more (s : List Int) (j : Nat) : ∀ k, j ≤ k → ∃ t, maskCat s k = maskCat s j ++ t := by
  intro k
  induction k with
  | zero => intro h; obtain rfl : j = 0 := by omega
            exact ⟨[], by simp⟩
  | succ k ih =>
    intro h
    by_cases c : j = k + 1
    · subst c
      exact ⟨[], by simp⟩
    · obtain ⟨t, ht⟩ := ih (by omega)
      exact ⟨t ++ maskBlk s k, by rw [show maskCat s (k + 1) = maskCat s k ++ maskBlk s k from rfl, ht, List.append_assoc]⟩
theorem crossed54 : (impl_crossed.f 100 ([7] ++ List.replicate (64 - [7].length) 0) 54).map List.length = some 64 := by kernel_rfl
theorem crossed92 : (impl_crossed.f 100 ([7] ++ List.replicate (64 - [7].length) 0) 92).map List.length = some 64 := by kernel_rfl
theorem crossed_some (a : Int) (h : (impl_crossed.f 100 ([7] ++ List.replicate (64 - [7].length) 0) a).map List.length = some 64) : ∃ X, impl_crossed.f 100 ([7] ++ List.replicate (64 - [7].length) 0) a = some X ∧ X.length = 64 := by
  cases e : impl_crossed.f 100 ([7] ++ List.replicate (64 - [7].length) 0) a with
  | none => rw [e] at h; cases h
  | some X => rw [e] at h; exact ⟨X, rfl, by simpa using h⟩
/-- What the operations that give the same on every way give. -/
def tab11 (s1 s2 p n d sh ss ln th st : Value) : Nat → Value
  | 0 | 3 | 8 | 13 => .bool true
  | 7 => s1
  | 12 | 24 => s2
  | 17 => p
  | 18 | 20 => n
  | 19 | 37 => d
  | 26 | 28 => sh
  | 27 | 32 | 40 => ss
  | 33 => ln
  | 39 | 42 => th
  | 41 => st
  | _ => .bool false
set_option maxHeartbeats 8000000 in
set_option maxRecDepth 100000 in
theorem lawData (K : Nat) (A0 : Option Addr) (c0 : Nat) (l0 D : List Int) (x0 x1 x2 : Int) (m : Nat) (w : World) (h0 : Kd.C (Kd.int .u8) w A0 l0.length l0) (hc0 : l0.length ≤ c0)
    (hbig : laws_big.f l0 = some false) (hD : spec_DrawSha.f K l0 = some D) (hDl : D.length ≤ 20000) (a0 : laws_at.f l0 0 = some x0) (a1 : laws_at.f l0 1 = some x1) (a2 : laws_at.f l0 2 = some x2)
    (hm : Int.tmod (wrap64 (x0 * x1)) (wrap64 (D.length + 1)) = m) (hmd : m ≤ D.length) (hx2 : 0 ≤ x2) (hx2' : x2 ≤ 255) :
    Calls Try.prog 7 #[.slice A0 l0.length c0] w fun e w' => e = .returned (.bool true) ∧ Below w.heap.size w w' := by
  obtain ⟨DT, hDT⟩ : ∃ DT, DT = D.take m := ⟨_, rfl⟩
  obtain ⟨DR, hDR⟩ : ∃ DR, DR = D.drop m := ⟨_, rfl⟩
  have hTR : DT ++ DR = D := by rw [hDT, hDR, List.take_append_drop]
  have TL : DT.length = m := by rw [hDT, List.length_take]; omega
  have RL : DR.length = D.length - m := by rw [hDR, List.length_drop]
  obtain ⟨H1, hH1⟩ : ∃ H1, H1 = (fedL H0 [] DT).1 := ⟨_, rfl⟩
  obtain ⟨R1, hR1⟩ : ∃ R1, R1 = (fedL H0 [] DT).2 := ⟨_, rfl⟩
  obtain ⟨H2, hH2⟩ : ∃ H2, H2 = (fedL H0 [] D).1 := ⟨_, rfl⟩
  obtain ⟨R2, hR2⟩ : ∃ R2, R2 = (fedL H0 [] D).2 := ⟨_, rfl⟩
  have LH0 : Aside0 (H0.length = 8) := ⟨by rw [H0_start]; rfl⟩
  have LH1 : Aside0 (H1.length = 8) := ⟨by rw [hH1]; exact fedL_len _ _ _⟩
  have LH2 : Aside0 (H2.length = 8) := ⟨by rw [hH2]; exact fedL_len _ _ _⟩
  have LR1 : Aside0 (R1.length ≤ 63) := ⟨by rw [hR1, fed_mod]; omega⟩
  have LR2 : Aside0 (R2.length ≤ 63) := ⟨by rw [hR2, fed_mod]; omega⟩
  have OK1 : Aside0 (okS H1 R1.length m = true) := ⟨by have := fed_ok DT (by omega); rw [← hH1, ← hR1, TL] at this; exact this⟩
  have OK2 : Aside0 (okS H2 R2.length D.length = true) := ⟨by have := fed_ok D (by omega); rw [← hH2, ← hR2] at this; exact this⟩
  have HF1 : Aside0 (∀ (W : World) (A : Option Addr) (c : Nat), RdB W A DT → Calls Try.prog 28 #[.agg (SV H0 (.slice none 0 0) 0), .slice A DT.length c] W fun e w' => ∃ Av cv, e = .returned (.tuple #[.agg (SV H1 (.slice Av R1.length cv) m), .bool true]) ∧ RdB w' Av R1 ∧ R1.length ≤ cv ∧ Below W.heap.size W w') := ⟨fun W A c h => by
    refine (feedGood H0 LH0.out none A 0 c [] DT 0 W (Kd.C_nil (Kd.int .u8) W) h.1 (by simp; omega) (by omega) (by omega) (by omega) (by kernel_rfl)).mono ?_
    rintro e w' ⟨Av, cv, he, ho, hb⟩
    rw [← hH1, ← hR1] at he
    rw [← hR1] at ho
    exact ⟨Av, cv, by rw [he, TL, Int.zero_add], RdB.of_R ho, (Kd.R_reads' ho).2.1, hb⟩⟩
  have HF2 : Aside0 (∀ (W : World) (A A' : Option Addr) (c c' : Nat), RdB W A R1 → RdB W A' DR → Calls Try.prog 28 #[.agg (SV H1 (.slice A R1.length c) m), .slice A' DR.length c'] W fun e w' => ∃ Av cv, e = .returned (.tuple #[.agg (SV H2 (.slice Av R2.length cv) D.length), .bool true]) ∧ RdB w' Av R2 ∧ R2.length ≤ cv ∧ Below W.heap.size W w') := ⟨fun W A A' c c' h h' => by
    refine (feedGood H1 LH1.out A A' c c' R1 DR m W h.1 h'.1 (by have := LR1.out; omega) (by omega) (by omega) (by omega) OK1.out).mono ?_
    rintro e w' ⟨Av, cv, he, ho, hb⟩
    have hf : fedL H1 R1 DR = fedL H0 [] D := by rw [hH1, hR1, fed_pieces, hTR]
    rw [hf, ← hH2, ← hR2] at he
    rw [hf, ← hR2] at ho
    rw [show (m : Int) + (DR.length : Int) = D.length by omega] at he
    exact ⟨Av, cv, he, RdB.of_R ho, (Kd.R_reads' ho).2.1, hb⟩⟩
  obtain ⟨S, hSd⟩ : ∃ S, S = shaL D := ⟨_, rfl⟩
  obtain ⟨T, hTd⟩ : ∃ T, T = S.take 8 := ⟨_, rfl⟩
  have LS : Aside0 (S.length = 32) := ⟨by rw [hSd, shaL_len32]⟩
  have LT8 : Aside0 (T.length = 8) := ⟨by rw [hTd, List.length_take, LS.out]; rfl⟩
  have hsha : impl_sha.f D = some S := by unfold impl_sha.f; rw [if_pos (by omega), hSd]
  have HSha : Aside0 (impl_Sha.f D = some S) := ⟨by unfold impl_Sha.f; rw [if_neg (by omega), hsha]; rfl⟩
  have HSho : Aside0 (impl_Short.f D = some T) := ⟨by unfold impl_Short.f impl_short.f; rw [if_neg (by omega), hsha, Option.bind_some, if_pos (by have := LS.out; omega), hTd]; rfl⟩
  have HDig : Aside0 (∀ (W : World) (A : Option Addr) (c : Nat), RdB W A R2 → Calls Try.prog 30 #[.agg (SV H2 (.slice A R2.length c) D.length)] W fun e w' => ∃ Av cv, e = .returned (.slice Av S.length cv) ∧ RdB w' Av S ∧ S.length ≤ cv ∧ Below W.heap.size W w') := ⟨fun W A c h => by
    refine (digestGood H2 LH2.out A c R2 D.length W h.1 (by have := LR2.out; omega) (by omega) (by omega) OK2.out).mono ?_
    rintro e w' ⟨v, he, ho, hb⟩
    have hd : digL H2 R2 D.length = S := by
      rw [hSd, hH2, hR2]
      unfold shaL
      rw [Int.zero_add]
    rw [hd] at ho
    obtain ⟨Av, cv, rfl⟩ := Kd.R_slice ho
    exact ⟨Av, cv, he, RdB.of_R ho, (Kd.R_reads' ho).2.1, hb⟩⟩
  have HSt1 : Aside0 (∀ (A : Option Addr) (c : Nat) (W : World), Calls Try.prog 12 #[.agg (SV H1 (.slice A R1.length c) m)] W fun e w' => e = .returned (.bool true) ∧ Below W.heap.size W w') := ⟨fun A c W => by rw [← OK1.out]; exact implOk H1 LH1.out A c R1 m W⟩
  have HSt2 : Aside0 (∀ (A : Option Addr) (c : Nat) (W : World), Calls Try.prog 12 #[.agg (SV H2 (.slice A R2.length c) D.length)] W fun e w' => e = .returned (.bool true) ∧ Below W.heap.size W w') := ⟨fun A c W => by rw [← OK2.out]; exact implOk H2 LH2.out A c R2 D.length W⟩
  obtain ⟨M1, hM1⟩ : ∃ M1, M1 = (maskCat [1, 2] (((20 + Int.tmod x2 100).toNat + 31) / 32)).take (20 + Int.tmod x2 100).toNat := ⟨_, rfl⟩
  obtain ⟨M2, hM2⟩ : ∃ M2, M2 = (maskCat [1, 2] 1).take 20 := ⟨_, rfl⟩
  have hx100 : 0 ≤ Int.tmod x2 100 ∧ Int.tmod x2 100 ≤ 99 := by rw [Int.tmod_eq_emod_of_nonneg hx2]; omega
  have LM1 : Aside0 (20 ≤ M1.length) := ⟨by rw [hM1, List.length_take, maskCat_len]; omega⟩
  have LM2 : Aside0 (M2.length = 20) := ⟨by rw [hM2, List.length_take, maskCat_len]; rfl⟩
  have hM12 : M2 = M1.take 20 := by
    obtain ⟨t, ht⟩ := maskCat_more [1, 2] 1 (((20 + Int.tmod x2 100).toNat + 31) / 32) (by omega)
    rw [hM1, hM2, ht, List.take_take, List.take_append_of_le_length (by rw [maskCat_len]; omega), show min 20 (20 + Int.tmod x2 100).toNat = 20 by omega]
  have HMk1 : Aside0 (∀ (W : World) (A : Option Addr) (c : Nat), ([1, 2] : List Int).length ≤ c → Kd.C (Kd.int .u8) W A [1, 2].length [1, 2] → Calls Try.prog 31 #[.slice A 2 c, .int .i64 (wrap64 (20 + Int.tmod x2 100))] W fun e w' => ∃ Av cv, e = .returned (.tuple #[.slice Av M1.length cv, .bool true]) ∧ RdB w' Av M1 ∧ M1.length ≤ cv ∧ Below W.heap.size W w') := ⟨fun W A c hc h => by
    rw [w64 (by omega) (by omega)]
    refine (impl_Mask.calls A c [1, 2] (20 + Int.tmod x2 100) M1 true W h hc (by unfold impl_Mask.f impl_mask.f; rw [within_eq_, decide_eq_true (by omega)]; simp only [Option.bind_some, if_true]; rw [if_neg (by decide), if_pos ⟨by decide, by omega, by omega⟩, ← hM1]; rfl)).mono ?_
    rintro e w' ⟨v, he, ho, hb⟩
    obtain ⟨Av, cv, rfl⟩ := Kd.R_slice ho
    exact ⟨Av, cv, he, RdB.of_R ho, (Kd.R_reads' ho).2.1, hb⟩⟩
  have HMk2 : Aside0 (∀ (W : World) (A : Option Addr) (c : Nat), ([1, 2] : List Int).length ≤ c → Kd.C (Kd.int .u8) W A [1, 2].length [1, 2] → Calls Try.prog 31 #[.slice A 2 c, .int .i64 20] W fun e w' => ∃ Av cv, e = .returned (.tuple #[.slice Av M2.length cv, .bool true]) ∧ RdB w' Av M2 ∧ M2.length ≤ cv ∧ Below W.heap.size W w') := ⟨fun W A c hc h => by
    refine (impl_Mask.calls A c [1, 2] 20 M2 true W h hc (by unfold impl_Mask.f impl_mask.f; rw [within_eq_, decide_eq_true (by omega)]; simp only [Option.bind_some, if_true]; rw [if_neg (by decide), if_pos ⟨by decide, by omega, by omega⟩, hM2]; rfl)).mono ?_
    rintro e w' ⟨v, he, ho, hb⟩
    obtain ⟨Av, cv, rfl⟩ := Kd.R_slice ho
    exact ⟨Av, cv, he, RdB.of_R ho, (Kd.R_reads' ho).2.1, hb⟩⟩
  obtain ⟨DM, hDM⟩ : ∃ DM, DM = D.take (m % 64) := ⟨_, rfl⟩
  have LDM : Aside0 (DM.length = m % 64) := ⟨by rw [hDM, List.length_take]; omega⟩
  have ht64 : Aside0 (Int.tmod (m : Int) 64 = (m % 64 : Nat)) := ⟨by rw [Int.tmod_eq_emod_of_nonneg (Int.natCast_nonneg _)]; omega⟩
  have HHm : Aside0 (∀ (W : World) (A A' : Option Addr) (c c' : Nat), ([7] : List Int).length ≤ c → Kd.C (Kd.int .u8) W A [7].length [7] → RdB W A' D → Calls Try.prog 32 #[.slice A 1 c, .slice A' DM.length c'] W fun e w' => ∃ Av cv, e = .returned (.tuple #[.slice Av 32 cv, .bool true]) ∧ Below W.heap.size W w') := ⟨fun W A A' c c' hc h h' => by
    obtain ⟨X, hX, hXl⟩ := crossed_some 54 crossed54
    obtain ⟨Y, hY, hYl⟩ := crossed_some 92 crossed92
    exact hmac32 100 A A' c c' [7] DM X Y W h hc (by rw [hDM]; exact (h'.take _ (by omega)).c) (by decide) (by have := LDM.out; omega) hX hXl hY hYl⟩
  have NM := Aside0.mk hM12
  have NDM := Aside0.mk hDM
  clear hM1 hM2 hM12 hx100 hDM
  have NS := Aside0.mk hSd
  have NT8 := Aside0.mk hTd
  clear hSd hTd hsha
  have H0_ := Aside0.mk h0
  have HC0 := Aside0.mk hc0
  have HBig := Aside0.mk hbig
  have HD := Aside0.mk hD
  have HA0 := Aside0.mk a0
  have HA1 := Aside0.mk a1
  have HA2 := Aside0.mk a2
  have HM := Aside0.mk hm
  have HMD := Aside0.mk hmd
  have DL := Aside0.mk hDl
  have LT := Aside0.mk TL
  have LD := Aside0.mk RL
  have NT := Aside0.mk hDT
  have NR := Aside0.mk hDR
  have N1 := Aside0.mk hH1
  have N2 := Aside0.mk hR1
  have N3 := Aside0.mk hH2
  have N4 := Aside0.mk hR2
  have X2 := Aside0.mk (And.intro hx2 hx2')
  have HB := Aside0.mk (Below.refl w.heap.size w)
  have nz : ¬ (wrap64 (D.length + 1) = 0) := by unfold wrap64; omega
  have c1 : decide ((D.length : Int) > 20000) = false := decide_eq_false (by omega)
  clear h0 hc0 hbig hD a0 a1 a2 hmd hx2 hx2' hDl hm TL RL hTR hDT hDR hH1 hR1 hH2 hR2
  go_enter Try.func7, Try.ntmps7
  go_upto_region 8 with (first
   | (go_at_call 26; ((with_reducible refine (laws_big.calls A0 c0 l0 _ _ (Kd.C_below H0_.out HB.out) HC0.out HBig.out).mono ?_); rintro e w19 ⟨rfl, hd⟩; have n0_ := Aside0.mk (below_step HB.out hd.below); clear HB hd; have HB := n0_; clear n0_))
   | (go_at_call 27; ((with_reducible refine (spec_DrawSha.calls K A0 c0 l0 _ _ (Kd.C_below H0_.out HB.out) HC0.out HD.out).mono ?_); rintro e w21 ⟨v21, rfl, ho, hb⟩; obtain ⟨A3, c3, rfl⟩ := Kd.R_slice ho; have n0_ := Aside0.mk (below_step HB.out hb); have HC3 := Aside0.mk (Kd.R_reads' ho).2.1; have HR3 := Aside0.mk (RdB.of_R ho); clear HB ho hb; have HB := n0_; clear n0_))
   | (go_at_call 29; first | ((with_reducible refine (laws_at.calls A0 c0 l0 0 _ _ (Kd.C_below H0_.out HB.out) HC0.out HA0.out).mono ?_); rintro e w40 ⟨rfl, hd⟩; have n0_ := Aside0.mk (below_step HB.out hd.below); have n1_ := Aside0.mk (HR3.out.below hd.below); clear HB HR3 hd; have HB := n0_; have HR3 := n1_; clear n0_ n1_) | ((with_reducible refine (laws_at.calls A0 c0 l0 1 _ _ (Kd.C_below H0_.out HB.out) HC0.out HA1.out).mono ?_); rintro e w42 ⟨rfl, hd⟩; have n0_ := Aside0.mk (below_step HB.out hd.below); have n1_ := Aside0.mk (HR3.out.below hd.below); clear HB HR3 hd; have HB := n0_; have HR3 := n1_; clear n0_ n1_)))
  rw [HM.out]
  have hcut := cut_to (P := Try.prog) 23 5 .i64 Try.underlying23 (info_parts info5).choose_spec.1 A3 D.length c3 (m : Int) (Int.natCast_nonneg _) (by have := HMD.out; omega) HC3.out
  rw [show (m : Int).toNat = DT.length by rw [LT.out]; rfl] at hcut
  have HS : Aside0 (Arrs w w42 []) := ⟨HB.out, fun i g cs t h => by simp at h, fun i j g h cs ds t u e => by simp at e⟩
  clear HB
  refine wp_region_stable 10 (by kernel_rfl) (by kernel_rfl) (fun listed a W => ∃ V : Nat → Value, a = (⟨#[.slice A0 l0.length c0, undef, .bool false, .slice A3 D.length c3, undef, undef, .int .i64 (m : Int), V 8, undef, undef, undef, undef, undef, undef, undef, undef, undef, undef, .slice A0 l0.length c0, .bool false, .slice A0 l0.length c0, .slice A3 D.length c3, .slice A3 D.length c3, .int .i64 (D.length : Int), .bool false, undef, undef, undef, undef, undef, undef, undef, undef, undef, undef, undef, undef, undef, undef, .slice A0 l0.length c0, .int .i64 x0, .slice A0 l0.length c0, .int .i64 x1, .int .i64 (wrap64 (x0 * x1)), .slice A3 D.length c3, .int .i64 (D.length : Int), .int .i64 (wrap64 ((D.length : Int) + 1)), .int .i64 (m : Int), V 5, V 0, V 1, V 2, V 3, V 4, V 6, V 7, undef, undef, undef, undef, undef, undef, undef, undef, undef, undef, undef, undef, undef, undef, undef, undef, undef, undef, undef, undef, undef, undef, undef, undef, undef, undef, undef, undef, undef, undef, undef, undef, undef, undef, undef, undef, undef, undef, undef, undef, undef, undef, undef, undef, undef, undef, undef, undef, undef, undef, undef, undef, undef, undef, undef, undef, undef, undef, undef, undef, undef, undef, undef, undef, undef, undef, undef, undef, undef, undef, undef, undef, undef, undef, undef, undef, undef, undef, undef, undef, undef, undef, undef, undef, undef, undef, undef, undef, undef, undef, undef, undef, undef, undef, undef, undef, undef, undef], []⟩ : Act) ∧ StI (fdFact H1 R1 m (.agg (SV H0 (.slice none 0 0) 0)) (.slice A3 D.length c3) (.int .i64 (m : Int)) (.slice A3 DT.length c3)) 10 listed V W ∧ fdBlk w [] H1 R1 m listed (V 8) W ∧ RdB W A3 D) ?h0 ?hstep ?hend
  case h0 => exact ⟨fun _ => undef, rfl, (by intro j hj h; rw [getD_replicate_false] at h; cases h), .inl ⟨getD_replicate_false _ _, HS.out.drew1⟩, HR3.out.below (below_drew1 (Below.refl _ _))⟩
  case hstep =>
    clear HR3 HS
    rintro listed a W inv ⟨V, rfl, HI, HK, HR0_⟩ i hi hr
    have hgo : ∀ (v : Value) (W' : World), i ≠ 8 → i ≠ 9 → Below W.heap.size W W' → fdFact H1 R1 m (.agg (SV H0 (.slice none 0 0) 0)) (.slice A3 D.length c3) (.int .i64 (m : Int)) (.slice A3 DT.length c3) i v W' → StI (fdFact H1 R1 m (.agg (SV H0 (.slice none 0 0) 0)) (.slice A3 D.length c3) (.int .i64 (m : Int)) (.slice A3 DT.length c3)) 10 (listed.setIfInBounds i true) (fun j => if j = i then v else V j) W' ∧ fdBlk w [] H1 R1 m (listed.setIfInBounds i true) (if 8 = i then v else V 8) W' ∧ RdB W' A3 D :=
      fun v W' h8 h9 hb hf => ⟨HI.step (fun j v h => fdFact_keep (fun A l h => h.below hb) j v h) i v hf, (by rw [if_neg (fun e => h8 e.symm)]; exact HK.below hb i h8 h9), HR0_.below hb⟩
    match i, hi, hr, hgo with
    | 0, _, hr, hgo =>
      refine op_call rfl rfl Try.func15 (by kernel_rfl) rfl #[] rfl (by simp only [List.map_toArray, List.map_nil]) ((impl_NewStream_ W).mono ?_)
      rintro e W' ⟨rfl, hb⟩
      exact ⟨_, rfl, _, rfl, hgo _ _ (by decide) (by decide) hb rfl⟩
    | 1, _, hr, hgo => exact op_val rfl rfl (v := .slice A3 D.length c3) (w' := W) rfl ⟨_, rfl, hgo _ _ (by decide) (by decide) (Below.refl _ _) rfl⟩
    | 2, _, hr, hgo => exact op_val rfl rfl (v := .int .i64 (m : Int)) (w' := W) rfl ⟨_, rfl, hgo _ _ (by decide) (by decide) (Below.refl _ _) rfl⟩
    | 3, _, hr, hgo =>
      have e1 : V 1 = .slice A3 D.length c3 := HI 1 (by omega) (dep_of hr (by kernel_rfl))
      have e2 : V 2 = .int .i64 (m : Int) := HI 2 (by omega) (dep_of hr (by kernel_rfl))
      refine op_val rfl rfl (v := .slice A3 DT.length c3) (w' := W) ?_ ⟨_, rfl, hgo _ _ (by decide) (by decide) (Below.refl _ _) rfl⟩
      first | (go_simp; done) | (go_simp; rfl)
    | 4, _, hr, hgo =>
      have e0 : V 0 = .agg (SV H0 (.slice none 0 0) 0) := HI 0 (by omega) (dep_of hr (by kernel_rfl))
      have e3 : V 3 = .slice A3 DT.length c3 := HI 3 (by omega) (dep_of hr (by kernel_rfl))
      refine op_call rfl rfl Try.func28 (by kernel_rfl) rfl #[.agg (SV H0 (.slice none 0 0) 0), .slice A3 DT.length c3] rfl (by simp only [List.map_toArray, List.map_cons, List.map_nil]; show (⟨[V 0, V 3]⟩ : Array Value) = _; rw [e0, e3]) ((HF1.out W A3 c3 (by rw [NT.out]; exact HR0_.take m HMD.out)).mono ?_)
      rintro e W' ⟨Av, cv, rfl, hA, hcv, hb⟩
      exact ⟨_, rfl, _, rfl, hgo _ _ (by decide) (by decide) hb ⟨Av, cv, rfl, hA, hcv⟩⟩
    | 5, _, hr, hgo =>
      obtain ⟨Av, cv, e4, hA, hcv⟩ := HI 4 (by omega) (dep_of hr (by kernel_rfl))
      refine op_val rfl rfl (v := V 4) (w' := W) rfl ⟨_, rfl, hgo _ _ (by decide) (by decide) (Below.refl _ _) ⟨Av, cv, e4, hA, hcv⟩⟩
    | 6, _, hr, hgo =>
      obtain ⟨Av, cv, e5, hA, hcv⟩ := HI 5 (by omega) (dep_of hr (by kernel_rfl))
      refine op_val rfl rfl (v := .agg (SV H1 (.slice Av R1.length cv) m)) (w' := W) ?_ ⟨_, rfl, hgo _ _ (by decide) (by decide) (Below.refl _ _) ⟨Av, cv, rfl, hA, hcv⟩⟩
      first | (go_simp; done) | (go_simp; rfl)
    | 7, _, hr, hgo =>
      obtain ⟨Av, cv, e5, hA, hcv⟩ := HI 5 (by omega) (dep_of hr (by kernel_rfl))
      refine op_val rfl rfl (v := .bool true) (w' := W) ?_ ⟨_, rfl, hgo _ _ (by decide) (by decide) (Below.refl _ _) rfl⟩
      first | (go_simp; done) | (go_simp; rfl)
    | 8, _, hr, _ =>
      have h8 : listed.getD 8 false = false := getD_both (mem_ready.1 hr).1
      have h9 : listed.getD 9 false = false := by
        cases h : listed.getD 9 false with
        | false => rfl
        | true => rw [inv.closed 9 _ rfl h ⟨8, .data⟩ (by simp) rfl] at h8; cases h8
      have hb : Below W.heap.size W (W.alloc (.cells (SV z8 (.slice none 0 0) 0) 28)) := below_alloc (Below.refl _ _) _
      refine op_val rfl rfl (v := .pointer (some ⟨W.heap.size, 0, none⟩)) (w' := W.alloc (.cells (SV z8 (.slice none 0 0) 0) 28)) ?_ ⟨_, rfl, HI.step (fun j v h => fdFact_keep (fun A l h => h.below hb) j v h) 8 _ trivial, HK.made h8 h9, HR0_.below hb⟩
      first | (go_simp; done) | (go_simp; rfl)
    | 9, _, hr, _ =>
      have h9 : listed.getD 9 false = false := getD_both (mem_ready.1 hr).1
      obtain ⟨g, e8, hg⟩ := HK.open_ (dep_of hr (by kernel_rfl)) h9
      obtain ⟨Av, cv, e6, hA, hcv⟩ := HI 6 (by omega) (dep_of hr (by kernel_rfl))
      have hk : ∀ A l, RdB W A l → RdB (W.setRow g (SV H1 (.slice Av R1.length cv) m)) A l := fun A l h => h.row (hg.get 0) (by decide) _
      refine op_store rfl rfl 28 _ _ rfl e8 e6 (hg.get 0) (info_S _ _ _ LH1.out) (by rw [SV_size _ _ _ LH1.out]; rfl) (SV_one _ _ _ rfl) ⟨fun j => if j = 9 then undef else V j, rfl, HI.step (fun j v h => fdFact_keep hk j v h) 9 undef trivial, .inr ⟨g, e8, .inr ⟨?_, Av, cv, hg.row 0 _, hk _ _ hA, hcv⟩⟩, hk _ _ HR0_⟩
      have hs : 9 < listed.size := by rw [inv.size]; decide
      simp [hs]
    | _ + 10, h, _, _ => exact absurd h (by omega)
  case hend =>
    clear HS HR3 hcut
    rintro listed a W8 ⟨Va, rfl, HI, HK, HR0_⟩ hall
    obtain ⟨g7, e8, A1, k1, hS, hA1, hk1⟩ := HK.end_ (hall 8 (by omega)) (hall 9 (by omega))
    have e7 : Va 7 = .bool true := HI 7 (by omega) (hall 7 (by omega))
    simp only [List.drop_succ_cons, List.drop_zero, e7, e8]
    have HS := Aside0.mk hS
    have HR3 := Aside0.mk HR0_
    have HR1 := Aside0.mk hA1
    have HK1 := Aside0.mk hk1
    clear hS HR0_ hA1 hk1 HI HK hall e7 e8
    go_upto_region 9 with (fail)
    obtain ⟨A4, hcut, hDr, hc4⟩ := RdB.drop (A := A3) (c := c3) (l := D) m HMD.out HC3.out
    rw [← NR.out] at hcut hDr hc4
    have HDr := Aside0.mk hDr
    clear hDr
    refine wp_region_stable 10 (by kernel_rfl) (by kernel_rfl) (fun listed a W => ∃ V : Nat → Value, a = (⟨#[.slice A0 l0.length c0, undef, .bool false, .slice A3 D.length c3, undef, undef, .int .i64 (m : Int), .pointer (some ⟨g7, 0, none⟩), .bool true, V 8, undef, undef, undef, undef, undef, undef, undef, undef, .slice A0 l0.length c0, .bool false, .slice A0 l0.length c0, .slice A3 D.length c3, .slice A3 D.length c3, .int .i64 (D.length : Int), .bool false, undef, undef, undef, undef, undef, undef, undef, undef, undef, undef, undef, undef, undef, undef, .slice A0 l0.length c0, .int .i64 x0, .slice A0 l0.length c0, .int .i64 x1, .int .i64 (wrap64 (x0 * x1)), .slice A3 D.length c3, .int .i64 (D.length : Int), .int .i64 (wrap64 ((D.length : Int) + 1)), .int .i64 (m : Int), Va 5, Va 0, Va 1, Va 2, Va 3, Va 4, Va 6, .bool true, V 5, V 0, V 1, V 2, V 3, V 4, V 6, V 7, undef, undef, undef, undef, undef, undef, undef, undef, undef, undef, undef, undef, undef, undef, undef, undef, undef, undef, undef, undef, undef, undef, undef, undef, undef, undef, undef, undef, undef, undef, undef, undef, undef, undef, undef, undef, undef, undef, undef, undef, undef, undef, undef, undef, undef, undef, undef, undef, undef, undef, undef, undef, undef, undef, undef, undef, undef, undef, undef, undef, undef, undef, undef, undef, undef, undef, undef, undef, undef, undef, undef, undef, undef, undef, undef, undef, undef, undef, undef, undef, undef, undef, undef, undef, undef, undef, undef, undef, undef, undef], []⟩ : Act) ∧ StI (fdFact H2 R2 D.length (.agg (SV H1 (.slice A1 R1.length k1) m)) (.slice A3 D.length c3) (.int .i64 (m : Int)) (.slice A4 DR.length (c3 - m))) 10 listed V W ∧ fdBlk w [(g7, SV H1 (.slice A1 R1.length k1) m, 28)] H2 R2 D.length listed (V 8) W ∧ RdB W A3 D ∧ RdB W A1 R1) ?h0 ?hstep ?hend
    case h0 => exact ⟨fun _ => undef, rfl, (by intro j hj h; rw [getD_replicate_false] at h; cases h), .inl ⟨getD_replicate_false _ _, HS.out.drew1⟩, HR3.out.below (below_drew1 (Below.refl _ _)), HR1.out.below (below_drew1 (Below.refl _ _))⟩
    case hstep =>
      clear HR3 HR1 HS
      rintro listed a W inv ⟨V, rfl, HI, HK, HR0_, HR1_⟩ i hi hr
      have hgo : ∀ (v : Value) (W' : World), i ≠ 8 → i ≠ 9 → Below W.heap.size W W' → fdFact H2 R2 D.length (.agg (SV H1 (.slice A1 R1.length k1) m)) (.slice A3 D.length c3) (.int .i64 (m : Int)) (.slice A4 DR.length (c3 - m)) i v W' → StI (fdFact H2 R2 D.length (.agg (SV H1 (.slice A1 R1.length k1) m)) (.slice A3 D.length c3) (.int .i64 (m : Int)) (.slice A4 DR.length (c3 - m))) 10 (listed.setIfInBounds i true) (fun j => if j = i then v else V j) W' ∧ fdBlk w [(g7, SV H1 (.slice A1 R1.length k1) m, 28)] H2 R2 D.length (listed.setIfInBounds i true) (if 8 = i then v else V 8) W' ∧ RdB W' A3 D ∧ RdB W' A1 R1 :=
        fun v W' h8 h9 hb hf => ⟨HI.step (fun j v h => fdFact_keep (fun A l h => h.below hb) j v h) i v hf, (by rw [if_neg (fun e => h8 e.symm)]; exact HK.below hb i h8 h9), HR0_.below hb, HR1_.below hb⟩
      match i, hi, hr, hgo with
      | 0, _, hr, hgo => exact op_load rfl rfl 28 (.tmp 7) rfl rfl (HK.none_.get 0) Try.underlying28 rfl (info_S _ _ _ LH1.out) ⟨_, rfl, hgo _ _ (by decide) (by decide) (Below.refl _ _) rfl⟩
      | 1, _, hr, hgo => exact op_val rfl rfl (v := .slice A3 D.length c3) (w' := W) rfl ⟨_, rfl, hgo _ _ (by decide) (by decide) (Below.refl _ _) rfl⟩
      | 2, _, hr, hgo => exact op_val rfl rfl (v := .int .i64 (m : Int)) (w' := W) rfl ⟨_, rfl, hgo _ _ (by decide) (by decide) (Below.refl _ _) rfl⟩
      | 3, _, hr, hgo =>
        have e1 : V 1 = .slice A3 D.length c3 := HI 1 (by omega) (dep_of hr (by kernel_rfl))
        have e2 : V 2 = .int .i64 (m : Int) := HI 2 (by omega) (dep_of hr (by kernel_rfl))
        refine op_val rfl rfl (v := .slice A4 DR.length (c3 - m)) (w' := W) ?_ ⟨_, rfl, hgo _ _ (by decide) (by decide) (Below.refl _ _) rfl⟩
        first | (go_simp; done) | (go_simp; rfl)
      | 4, _, hr, hgo =>
        have e0 : V 0 = .agg (SV H1 (.slice A1 R1.length k1) m) := HI 0 (by omega) (dep_of hr (by kernel_rfl))
        have e3 : V 3 = .slice A4 DR.length (c3 - m) := HI 3 (by omega) (dep_of hr (by kernel_rfl))
        refine op_call rfl rfl Try.func28 (by kernel_rfl) rfl #[.agg (SV H1 (.slice A1 R1.length k1) m), .slice A4 DR.length (c3 - m)] rfl (by simp only [List.map_toArray, List.map_cons, List.map_nil]; show (⟨[V 0, V 3]⟩ : Array Value) = _; rw [e0, e3]) ((HF2.out W A1 A4 k1 (c3 - m) HR1_ (HDr.out W HR0_)).mono ?_)
        rintro e W' ⟨Av, cv, rfl, hA, hcv, hb⟩
        exact ⟨_, rfl, _, rfl, hgo _ _ (by decide) (by decide) hb ⟨Av, cv, rfl, hA, hcv⟩⟩
      | 5, _, hr, hgo =>
        obtain ⟨Av, cv, e4, hA, hcv⟩ := HI 4 (by omega) (dep_of hr (by kernel_rfl))
        refine op_val rfl rfl (v := V 4) (w' := W) rfl ⟨_, rfl, hgo _ _ (by decide) (by decide) (Below.refl _ _) ⟨Av, cv, e4, hA, hcv⟩⟩
      | 6, _, hr, hgo =>
        obtain ⟨Av, cv, e5, hA, hcv⟩ := HI 5 (by omega) (dep_of hr (by kernel_rfl))
        refine op_val rfl rfl (v := .agg (SV H2 (.slice Av R2.length cv) D.length)) (w' := W) ?_ ⟨_, rfl, hgo _ _ (by decide) (by decide) (Below.refl _ _) ⟨Av, cv, rfl, hA, hcv⟩⟩
        first | (go_simp; done) | (go_simp; rfl)
      | 7, _, hr, hgo =>
        obtain ⟨Av, cv, e5, hA, hcv⟩ := HI 5 (by omega) (dep_of hr (by kernel_rfl))
        refine op_val rfl rfl (v := .bool true) (w' := W) ?_ ⟨_, rfl, hgo _ _ (by decide) (by decide) (Below.refl _ _) rfl⟩
        first | (go_simp; done) | (go_simp; rfl)
      | 8, _, hr, _ =>
        have h8 : listed.getD 8 false = false := getD_both (mem_ready.1 hr).1
        have h9 : listed.getD 9 false = false := by
          cases h : listed.getD 9 false with
          | false => rfl
          | true => rw [inv.closed 9 _ rfl h ⟨8, .data⟩ (by simp) rfl] at h8; cases h8
        have hb : Below W.heap.size W (W.alloc (.cells (SV z8 (.slice none 0 0) 0) 28)) := below_alloc (Below.refl _ _) _
        refine op_val rfl rfl (v := .pointer (some ⟨W.heap.size, 0, none⟩)) (w' := W.alloc (.cells (SV z8 (.slice none 0 0) 0) 28)) ?_ ⟨_, rfl, HI.step (fun j v h => fdFact_keep (fun A l h => h.below hb) j v h) 8 _ trivial, HK.made h8 h9, HR0_.below hb, HR1_.below hb⟩
        first | (go_simp; done) | (go_simp; rfl)
      | 9, _, hr, _ =>
        have h9 : listed.getD 9 false = false := getD_both (mem_ready.1 hr).1
        obtain ⟨g, e8, hg⟩ := HK.open_ (dep_of hr (by kernel_rfl)) h9
        obtain ⟨Av, cv, e6, hA, hcv⟩ := HI 6 (by omega) (dep_of hr (by kernel_rfl))
        have hk : ∀ A l, RdB W A l → RdB (W.setRow g (SV H2 (.slice Av R2.length cv) D.length)) A l := fun A l h => h.row (hg.get 0) (by decide) _
        refine op_store rfl rfl 28 _ _ rfl e8 e6 (hg.get 0) (info_S _ _ _ LH2.out) (by rw [SV_size _ _ _ LH2.out]; rfl) (SV_one _ _ _ rfl) ⟨fun j => if j = 9 then undef else V j, rfl, HI.step (fun j v h => fdFact_keep hk j v h) 9 undef trivial, .inr ⟨g, e8, .inr ⟨?_, Av, cv, hg.row 0 _, hk _ _ hA, hcv⟩⟩, hk _ _ HR0_, hk _ _ HR1_⟩
        have hs : 9 < listed.size := by rw [inv.size]; decide
        simp [hs]
      | _ + 10, h, _, _ => exact absurd h (by omega)
    case hend =>
      clear HS HR3 HR1 hcut
      rintro listed a W9 ⟨Vb, rfl, HI, HK, HR0_, HR1_⟩ hall
      obtain ⟨g9, e8, A2, k2, hS, hA2, hk2⟩ := HK.end_ (hall 8 (by omega)) (hall 9 (by omega))
      have e7 : Vb 7 = .bool true := HI 7 (by omega) (hall 7 (by omega))
      simp only [List.drop_succ_cons, List.drop_zero, e7, e8]
      have HS := Aside0.mk hS
      have HR3 := Aside0.mk HR0_
      have HR1 := Aside0.mk HR1_
      have HR2 := Aside0.mk hA2
      have HK2 := Aside0.mk hk2
      clear hS HR0_ HR1_ hA2 hk2 HI HK hall e7 e8
      go_upto_region 11 with (first
       | (go_at_call 20; ((with_reducible refine (impl_Sha.calls A3 c3 D S _ HR3.out.c HC3.out HSha.out).mono ?_); rintro e w65 ⟨v65, rfl, ho, hb⟩; obtain ⟨A11, k11, rfl⟩ := Kd.R_slice ho; have HK11 := Aside0.mk (Kd.R_reads' ho).2.1; have HR11 := Aside0.mk (RdB.of_R ho); have n0_ := Aside0.mk (HS.out.below hb); have n1_ := Aside0.mk (HR3.out.below hb); have n2_ := Aside0.mk (HR1.out.below hb); have n3_ := Aside0.mk (HR2.out.below hb); clear HS HR3 HR1 HR2 ho hb; have HS := n0_; have HR3 := n1_; have HR1 := n2_; have HR2 := n3_; clear n0_ n1_ n2_ n3_)))
      refine wp_region_stable 44 (by kernel_rfl) (by kernel_rfl) (fun listed a W => ∃ V : Nat → Value, a = (⟨#[.slice A0 l0.length c0, undef, .bool false, .slice A3 D.length c3, undef, undef, .int .i64 (m : Int), .pointer (some ⟨g7, 0, none⟩), .bool true, .pointer (some ⟨g9, 0, none⟩), .bool true, .slice A11 S.length k11, undef, undef, undef, undef, undef, undef, .slice A0 l0.length c0, .bool false, .slice A0 l0.length c0, .slice A3 D.length c3, .slice A3 D.length c3, .int .i64 (D.length : Int), .bool false, undef, undef, undef, undef, undef, undef, undef, undef, undef, undef, undef, undef, undef, undef, .slice A0 l0.length c0, .int .i64 x0, .slice A0 l0.length c0, .int .i64 x1, .int .i64 (wrap64 (x0 * x1)), .slice A3 D.length c3, .int .i64 (D.length : Int), .int .i64 (wrap64 ((D.length : Int) + 1)), .int .i64 (m : Int), Va 5, Va 0, Va 1, Va 2, Va 3, Va 4, Va 6, .bool true, Vb 5, Vb 0, Vb 1, Vb 2, Vb 3, Vb 4, Vb 6, .bool true, .slice A3 D.length c3, .slice A11 S.length k11, V 0, V 1, V 2, V 3, V 4, V 5, V 6, V 7, V 8, V 9, V 10, V 11, V 12, V 13, V 14, V 15, V 16, V 17, V 18, V 19, V 20, V 21, V 22, V 23, V 24, V 25, V 26, V 27, V 28, V 29, V 30, V 31, V 32, V 33, V 34, V 35, V 36, V 37, V 38, V 39, V 40, V 41, V 42, V 43, undef, undef, undef, undef, undef, undef, undef, undef, undef, undef, undef, undef, undef, undef, undef, undef, undef, undef, undef, undef, undef, undef, undef, undef, undef, undef, undef, undef, undef, undef, undef, undef, undef, undef, undef, undef, undef, undef, undef, undef, undef, undef, undef, undef], []⟩ : Act) ∧ StI (shFact S T (tab11 (.agg (SV H1 (.slice A1 R1.length k1) m)) (.agg (SV H2 (.slice A2 R2.length k2) D.length)) (.pointer (some ⟨g9, 9, none⟩)) (.int .i64 (D.length : Int)) (.slice A3 D.length c3) (.string (strOfNums S)) (.slice A11 S.length k11) (.int .i64 (S.length : Int)) (.string (strOfNums T)) (.slice A11 T.length k11))) 44 listed V W ∧ Arrs w W [(g9, SV H2 (.slice A2 R2.length k2) D.length, 28), (g7, SV H1 (.slice A1 R1.length k1) m, 28)] ∧ RdB W A3 D ∧ RdB W A1 R1 ∧ RdB W A2 R2 ∧ RdB W A11 S) ?h0 ?hstep ?hend
      case h0 => exact ⟨fun _ => undef, rfl, (by intro j hj h; rw [getD_replicate_false] at h; cases h), HS.out.drew1, HR3.out.below (below_drew1 (Below.refl _ _)), HR1.out.below (below_drew1 (Below.refl _ _)), HR2.out.below (below_drew1 (Below.refl _ _)), HR11.out.below (below_drew1 (Below.refl _ _))⟩
      case hstep =>
        clear HS HR3 HR1 HR2 HR11
        rintro listed a W inv ⟨V, rfl, HI, hS_, hR3_, hR1_, hR2_, hR11_⟩ i hi hr
        have hgo : ∀ (v : Value) (W' : World), Below W.heap.size W W' → shFact S T (tab11 (.agg (SV H1 (.slice A1 R1.length k1) m)) (.agg (SV H2 (.slice A2 R2.length k2) D.length)) (.pointer (some ⟨g9, 9, none⟩)) (.int .i64 (D.length : Int)) (.slice A3 D.length c3) (.string (strOfNums S)) (.slice A11 S.length k11) (.int .i64 (S.length : Int)) (.string (strOfNums T)) (.slice A11 T.length k11)) i v W' → StI (shFact S T (tab11 (.agg (SV H1 (.slice A1 R1.length k1) m)) (.agg (SV H2 (.slice A2 R2.length k2) D.length)) (.pointer (some ⟨g9, 9, none⟩)) (.int .i64 (D.length : Int)) (.slice A3 D.length c3) (.string (strOfNums S)) (.slice A11 S.length k11) (.int .i64 (S.length : Int)) (.string (strOfNums T)) (.slice A11 T.length k11))) 44 (listed.setIfInBounds i true) (fun j => if j = i then v else V j) W' ∧ Arrs w W' [(g9, SV H2 (.slice A2 R2.length k2) D.length, 28), (g7, SV H1 (.slice A1 R1.length k1) m, 28)] ∧ RdB W' A3 D ∧ RdB W' A1 R1 ∧ RdB W' A2 R2 ∧ RdB W' A11 S :=
          fun v W' hb hf => ⟨HI.step (fun j v h => shFact_keep (fun A l h => h.below hb) j v h) i v hf, hS_.below hb, hR3_.below hb, hR1_.below hb, hR2_.below hb, hR11_.below hb⟩
        match i, hi, hr, hgo with
        | 0, _, hr, hgo =>
          refine op_val_w rfl (wanted_free rfl) (v := .bool true) (w' := W) ?_ ⟨_, rfl, hgo _ _ (Below.refl _ _) rfl⟩
          first | (go_simp; done) | (go_simp; rfl)
        | 1, _, hr, hgo =>
          have e0 : V 0 = .bool true := HI 0 (by omega) (dep_of hr (by kernel_rfl))
          refine op_val_w rfl (wanted_free rfl) (v := .bool false) (w' := W) ?_ ⟨_, rfl, hgo _ _ (Below.refl _ _) rfl⟩
          first | (go_simp; done) | (go_simp; rfl)
        | 2, _, hr, hgo =>
          have e1 : V 1 = .bool false := HI 1 (by omega) (dep_of hr (by kernel_rfl))
          refine op_val_w rfl (wanted_free rfl) (v := .bool false) (w' := W) ?_ ⟨_, rfl, hgo _ _ (Below.refl _ _) rfl⟩
          first | (go_simp; done) | (go_simp; rfl)
        | 3, _, hr, hgo =>
          have e2 : V 2 = .bool false := HI 2 (by omega) (dep_of hr (by kernel_rfl))
          refine op_val_w rfl (wanted_of rfl rfl rfl (congrArg some e2)) (v := .bool true) (w' := W) ?_ ⟨_, rfl, hgo _ _ (Below.refl _ _) rfl⟩
          first | (go_simp; done) | (go_simp; rfl)
        | 4, _, hr, hgo =>
          have e2 : V 2 = .bool false := HI 2 (by omega) (dep_of hr (by kernel_rfl))
          have e3 : V 3 = .bool true := HI 3 (by omega) (dep_of hr (by kernel_rfl))
          refine op_val_w rfl (wanted_of rfl rfl rfl (congrArg some e2)) (v := .bool false) (w' := W) ?_ ⟨_, rfl, hgo _ _ (Below.refl _ _) rfl⟩
          first | (go_simp; done) | (go_simp; rfl)
        | 5, _, hr, hgo =>
          have e2 : V 2 = .bool false := HI 2 (by omega) (dep_of hr (by kernel_rfl))
          have e4 : V 4 = .bool false := HI 4 (by omega) (dep_of hr (by kernel_rfl))
          refine op_val_w rfl (wanted_free rfl) (v := .bool false) (w' := W) ?_ ⟨_, rfl, hgo _ _ (Below.refl _ _) rfl⟩
          first | (go_simp; done) | (go_simp; rfl)
        | 6, _, hr, hgo =>
          have e5 : V 5 = .bool false := HI 5 (by omega) (dep_of hr (by kernel_rfl))
          refine op_val_w rfl (wanted_free rfl) (v := .bool false) (w' := W) ?_ ⟨_, rfl, hgo _ _ (Below.refl _ _) rfl⟩
          first | (go_simp; done) | (go_simp; rfl)
        | 7, _, hr, hgo =>
          have e6 : V 6 = .bool false := HI 6 (by omega) (dep_of hr (by kernel_rfl))
          exact op_load_w rfl (wanted_of rfl rfl rfl (congrArg some e6)) 28 (.tmp 7) rfl rfl (hS_.get 1) Try.underlying28 rfl (info_S _ _ _ LH1.out) ⟨_, rfl, hgo _ _ (Below.refl _ _) rfl⟩
        | 8, _, hr, hgo =>
          have e6 : V 6 = .bool false := HI 6 (by omega) (dep_of hr (by kernel_rfl))
          have e7 : V 7 = .agg (SV H1 (.slice A1 R1.length k1) m) := HI 7 (by omega) (dep_of hr (by kernel_rfl))
          refine op_call_w rfl (wanted_of rfl rfl rfl (congrArg some e6)) Try.func12 (by kernel_rfl) rfl #[.agg (SV H1 (.slice A1 R1.length k1) m)] rfl (by simp only [List.map_toArray, List.map_cons, List.map_nil]; show (⟨[V 7]⟩ : Array Value) = _; rw [e7]) ((HSt1.out A1 k1 W).mono ?_)
          rintro e W' ⟨rfl, hb⟩
          exact ⟨_, rfl, _, rfl, hgo _ _ hb rfl⟩
        | 9, _, hr, hgo =>
          have e6 : V 6 = .bool false := HI 6 (by omega) (dep_of hr (by kernel_rfl))
          have e8 : V 8 = .bool true := HI 8 (by omega) (dep_of hr (by kernel_rfl))
          refine op_val_w rfl (wanted_of rfl rfl rfl (congrArg some e6)) (v := .bool false) (w' := W) ?_ ⟨_, rfl, hgo _ _ (Below.refl _ _) rfl⟩
          first | (go_simp; done) | (go_simp; rfl)
        | 10, _, hr, hgo =>
          have e6 : V 6 = .bool false := HI 6 (by omega) (dep_of hr (by kernel_rfl))
          have e9 : V 9 = .bool false := HI 9 (by omega) (dep_of hr (by kernel_rfl))
          refine op_val_w rfl (wanted_free rfl) (v := .bool false) (w' := W) ?_ ⟨_, rfl, hgo _ _ (Below.refl _ _) rfl⟩
          first | (go_simp; done) | (go_simp; rfl)
        | 11, _, hr, hgo =>
          have e10 : V 10 = .bool false := HI 10 (by omega) (dep_of hr (by kernel_rfl))
          refine op_val_w rfl (wanted_free rfl) (v := .bool false) (w' := W) ?_ ⟨_, rfl, hgo _ _ (Below.refl _ _) rfl⟩
          first | (go_simp; done) | (go_simp; rfl)
        | 12, _, hr, hgo =>
          have e11 : V 11 = .bool false := HI 11 (by omega) (dep_of hr (by kernel_rfl))
          exact op_load_w rfl (wanted_of rfl rfl rfl (congrArg some e11)) 28 (.tmp 9) rfl rfl (hS_.get 0) Try.underlying28 rfl (info_S _ _ _ LH2.out) ⟨_, rfl, hgo _ _ (Below.refl _ _) rfl⟩
        | 13, _, hr, hgo =>
          have e11 : V 11 = .bool false := HI 11 (by omega) (dep_of hr (by kernel_rfl))
          have e12 : V 12 = .agg (SV H2 (.slice A2 R2.length k2) D.length) := HI 12 (by omega) (dep_of hr (by kernel_rfl))
          refine op_call_w rfl (wanted_of rfl rfl rfl (congrArg some e11)) Try.func12 (by kernel_rfl) rfl #[.agg (SV H2 (.slice A2 R2.length k2) D.length)] rfl (by simp only [List.map_toArray, List.map_cons, List.map_nil]; show (⟨[V 12]⟩ : Array Value) = _; rw [e12]) ((HSt2.out A2 k2 W).mono ?_)
          rintro e W' ⟨rfl, hb⟩
          exact ⟨_, rfl, _, rfl, hgo _ _ hb rfl⟩
        | 14, _, hr, hgo =>
          have e11 : V 11 = .bool false := HI 11 (by omega) (dep_of hr (by kernel_rfl))
          have e13 : V 13 = .bool true := HI 13 (by omega) (dep_of hr (by kernel_rfl))
          refine op_val_w rfl (wanted_of rfl rfl rfl (congrArg some e11)) (v := .bool false) (w' := W) ?_ ⟨_, rfl, hgo _ _ (Below.refl _ _) rfl⟩
          first | (go_simp; done) | (go_simp; rfl)
        | 15, _, hr, hgo =>
          have e11 : V 11 = .bool false := HI 11 (by omega) (dep_of hr (by kernel_rfl))
          have e14 : V 14 = .bool false := HI 14 (by omega) (dep_of hr (by kernel_rfl))
          refine op_val_w rfl (wanted_free rfl) (v := .bool false) (w' := W) ?_ ⟨_, rfl, hgo _ _ (Below.refl _ _) rfl⟩
          first | (go_simp; done) | (go_simp; rfl)
        | 16, _, hr, hgo =>
          have e15 : V 15 = .bool false := HI 15 (by omega) (dep_of hr (by kernel_rfl))
          refine op_val_w rfl (wanted_free rfl) (v := .bool false) (w' := W) ?_ ⟨_, rfl, hgo _ _ (Below.refl _ _) rfl⟩
          first | (go_simp; done) | (go_simp; rfl)
        | 17, _, hr, hgo =>
          have e16 : V 16 = .bool false := HI 16 (by omega) (dep_of hr (by kernel_rfl))
          refine op_val_w rfl (wanted_of rfl rfl rfl (congrArg some e16)) (v := .pointer (some ⟨g9, 9, none⟩)) (w' := W) ?_ ⟨_, rfl, hgo _ _ (Below.refl _ _) rfl⟩
          first | (go_simp; done) | (go_simp; rfl)
        | 18, _, hr, hgo =>
          have e16 : V 16 = .bool false := HI 16 (by omega) (dep_of hr (by kernel_rfl))
          have e17 : V 17 = .pointer (some ⟨g9, 9, none⟩) := HI 17 (by omega) (dep_of hr (by kernel_rfl))
          have hx : W.cell? ⟨g9, 9, none⟩ = some (.int .i64 (D.length : Int)) := (blk_cell (hS_.get 0) 9).trans (SV_many _ _ _ LH2.out)
          refine op_val_w rfl (wanted_of rfl rfl rfl (congrArg some e16)) (v := .int .i64 (D.length : Int)) (w' := W) ?_ ⟨_, rfl, hgo _ _ (Below.refl _ _) rfl⟩
          first | (go_simp; done) | (go_simp; rfl)
        | 19, _, hr, hgo =>
          have e16 : V 16 = .bool false := HI 16 (by omega) (dep_of hr (by kernel_rfl))
          refine op_val_w rfl (wanted_of rfl rfl rfl (congrArg some e16)) (v := .slice A3 D.length c3) (w' := W) ?_ ⟨_, rfl, hgo _ _ (Below.refl _ _) rfl⟩
          first | (go_simp; done) | (go_simp; rfl)
        | 20, _, hr, hgo =>
          have e16 : V 16 = .bool false := HI 16 (by omega) (dep_of hr (by kernel_rfl))
          have e19 : V 19 = .slice A3 D.length c3 := HI 19 (by omega) (dep_of hr (by kernel_rfl))
          refine op_val_w rfl (wanted_of rfl rfl rfl (congrArg some e16)) (v := .int .i64 (D.length : Int)) (w' := W) ?_ ⟨_, rfl, hgo _ _ (Below.refl _ _) rfl⟩
          first | (go_simp; done) | (go_simp; rfl)
        | 21, _, hr, hgo =>
          have e16 : V 16 = .bool false := HI 16 (by omega) (dep_of hr (by kernel_rfl))
          have e18 : V 18 = .int .i64 (D.length : Int) := HI 18 (by omega) (dep_of hr (by kernel_rfl))
          have e20 : V 20 = .int .i64 (D.length : Int) := HI 20 (by omega) (dep_of hr (by kernel_rfl))
          refine op_val_w rfl (wanted_of rfl rfl rfl (congrArg some e16)) (v := .bool false) (w' := W) ?_ ⟨_, rfl, hgo _ _ (Below.refl _ _) rfl⟩
          first | (go_simp; done) | (go_simp; rfl)
        | 22, _, hr, hgo =>
          have e16 : V 16 = .bool false := HI 16 (by omega) (dep_of hr (by kernel_rfl))
          have e21 : V 21 = .bool false := HI 21 (by omega) (dep_of hr (by kernel_rfl))
          refine op_val_w rfl (wanted_free rfl) (v := .bool false) (w' := W) ?_ ⟨_, rfl, hgo _ _ (Below.refl _ _) rfl⟩
          first | (go_simp; done) | (go_simp; rfl)
        | 23, _, hr, hgo =>
          have e22 : V 22 = .bool false := HI 22 (by omega) (dep_of hr (by kernel_rfl))
          refine op_val_w rfl (wanted_free rfl) (v := .bool false) (w' := W) ?_ ⟨_, rfl, hgo _ _ (Below.refl _ _) rfl⟩
          first | (go_simp; done) | (go_simp; rfl)
        | 24, _, hr, hgo =>
          have e23 : V 23 = .bool false := HI 23 (by omega) (dep_of hr (by kernel_rfl))
          exact op_load_w rfl (wanted_of rfl rfl rfl (congrArg some e23)) 28 (.tmp 9) rfl rfl (hS_.get 0) Try.underlying28 rfl (info_S _ _ _ LH2.out) ⟨_, rfl, hgo _ _ (Below.refl _ _) rfl⟩
        | 25, _, hr, hgo =>
          have e23 : V 23 = .bool false := HI 23 (by omega) (dep_of hr (by kernel_rfl))
          have e24 : V 24 = .agg (SV H2 (.slice A2 R2.length k2) D.length) := HI 24 (by omega) (dep_of hr (by kernel_rfl))
          refine op_call_w rfl (wanted_of rfl rfl rfl (congrArg some e23)) Try.func30 (by kernel_rfl) rfl #[.agg (SV H2 (.slice A2 R2.length k2) D.length)] rfl (by simp only [List.map_toArray, List.map_cons, List.map_nil]; show (⟨[V 24]⟩ : Array Value) = _; rw [e24]) ((HDig.out W A2 k2 hR2_).mono ?_)
          rintro e W' ⟨Av, cv, rfl, hA, hcv, hb⟩
          exact ⟨_, rfl, _, rfl, hgo _ _ hb ⟨Av, cv, rfl, hA, hcv⟩⟩
        | 26, _, hr, hgo =>
          have e23 : V 23 = .bool false := HI 23 (by omega) (dep_of hr (by kernel_rfl))
          obtain ⟨B25, b25, e25, hB25, hb25⟩ := HI 25 (by omega) (dep_of hr (by kernel_rfl))
          have hcv := Kd.C_string (src := 23) (dst := 9) Try.underlying23 Try.underlying5 Try.underlying9 (c := b25) (hB25).1
          refine op_val_w rfl (wanted_of rfl rfl rfl (congrArg some e23)) (v := .string (strOfNums S)) (w' := W) ?_ ⟨_, rfl, hgo _ _ (Below.refl _ _) rfl⟩
          first | (go_simp; done) | (go_simp; rfl)
        | 27, _, hr, hgo =>
          have e23 : V 23 = .bool false := HI 23 (by omega) (dep_of hr (by kernel_rfl))
          refine op_val_w rfl (wanted_of rfl rfl rfl (congrArg some e23)) (v := .slice A11 S.length k11) (w' := W) ?_ ⟨_, rfl, hgo _ _ (Below.refl _ _) rfl⟩
          first | (go_simp; done) | (go_simp; rfl)
        | 28, _, hr, hgo =>
          have e23 : V 23 = .bool false := HI 23 (by omega) (dep_of hr (by kernel_rfl))
          have e27 : V 27 = .slice A11 S.length k11 := HI 27 (by omega) (dep_of hr (by kernel_rfl))
          have hcv := Kd.C_string (src := 23) (dst := 9) Try.underlying23 Try.underlying5 Try.underlying9 (c := k11) (hR11_).1
          refine op_val_w rfl (wanted_of rfl rfl rfl (congrArg some e23)) (v := .string (strOfNums S)) (w' := W) ?_ ⟨_, rfl, hgo _ _ (Below.refl _ _) rfl⟩
          first | (go_simp; done) | (go_simp; rfl)
        | 29, _, hr, hgo =>
          have e23 : V 23 = .bool false := HI 23 (by omega) (dep_of hr (by kernel_rfl))
          have e26 : V 26 = .string (strOfNums S) := HI 26 (by omega) (dep_of hr (by kernel_rfl))
          have e28 : V 28 = .string (strOfNums S) := HI 28 (by omega) (dep_of hr (by kernel_rfl))
          refine op_val_w rfl (wanted_of rfl rfl rfl (congrArg some e23)) (v := .bool false) (w' := W) ?_ ⟨_, rfl, hgo _ _ (Below.refl _ _) rfl⟩
          first | (go_simp; done) | (go_simp; rfl)
        | 30, _, hr, hgo =>
          have e23 : V 23 = .bool false := HI 23 (by omega) (dep_of hr (by kernel_rfl))
          have e29 : V 29 = .bool false := HI 29 (by omega) (dep_of hr (by kernel_rfl))
          refine op_val_w rfl (wanted_free rfl) (v := .bool false) (w' := W) ?_ ⟨_, rfl, hgo _ _ (Below.refl _ _) rfl⟩
          first | (go_simp; done) | (go_simp; rfl)
        | 31, _, hr, hgo =>
          have e30 : V 30 = .bool false := HI 30 (by omega) (dep_of hr (by kernel_rfl))
          refine op_val_w rfl (wanted_free rfl) (v := .bool false) (w' := W) ?_ ⟨_, rfl, hgo _ _ (Below.refl _ _) rfl⟩
          first | (go_simp; done) | (go_simp; rfl)
        | 32, _, hr, hgo =>
          have e31 : V 31 = .bool false := HI 31 (by omega) (dep_of hr (by kernel_rfl))
          refine op_val_w rfl (wanted_of rfl rfl rfl (congrArg some e31)) (v := .slice A11 S.length k11) (w' := W) ?_ ⟨_, rfl, hgo _ _ (Below.refl _ _) rfl⟩
          first | (go_simp; done) | (go_simp; rfl)
        | 33, _, hr, hgo =>
          have e31 : V 31 = .bool false := HI 31 (by omega) (dep_of hr (by kernel_rfl))
          have e32 : V 32 = .slice A11 S.length k11 := HI 32 (by omega) (dep_of hr (by kernel_rfl))
          refine op_val_w rfl (wanted_of rfl rfl rfl (congrArg some e31)) (v := .int .i64 (S.length : Int)) (w' := W) ?_ ⟨_, rfl, hgo _ _ (Below.refl _ _) rfl⟩
          first | (go_simp; done) | (go_simp; rfl)
        | 34, _, hr, hgo =>
          have e31 : V 31 = .bool false := HI 31 (by omega) (dep_of hr (by kernel_rfl))
          have e33 : V 33 = .int .i64 (S.length : Int) := HI 33 (by omega) (dep_of hr (by kernel_rfl))
          have hl_ : (S.length : Int) = 32 := by rw [LS.out]; rfl
          refine op_val_w rfl (wanted_of rfl rfl rfl (congrArg some e31)) (v := .bool false) (w' := W) ?_ ⟨_, rfl, hgo _ _ (Below.refl _ _) rfl⟩
          first | (go_simp; done) | (go_simp; rfl)
        | 35, _, hr, hgo =>
          have e31 : V 31 = .bool false := HI 31 (by omega) (dep_of hr (by kernel_rfl))
          have e34 : V 34 = .bool false := HI 34 (by omega) (dep_of hr (by kernel_rfl))
          refine op_val_w rfl (wanted_free rfl) (v := .bool false) (w' := W) ?_ ⟨_, rfl, hgo _ _ (Below.refl _ _) rfl⟩
          first | (go_simp; done) | (go_simp; rfl)
        | 36, _, hr, hgo =>
          have e35 : V 35 = .bool false := HI 35 (by omega) (dep_of hr (by kernel_rfl))
          refine op_val_w rfl (wanted_free rfl) (v := .bool false) (w' := W) ?_ ⟨_, rfl, hgo _ _ (Below.refl _ _) rfl⟩
          first | (go_simp; done) | (go_simp; rfl)
        | 37, _, hr, hgo =>
          have e36 : V 36 = .bool false := HI 36 (by omega) (dep_of hr (by kernel_rfl))
          refine op_val_w rfl (wanted_of rfl rfl rfl (congrArg some e36)) (v := .slice A3 D.length c3) (w' := W) ?_ ⟨_, rfl, hgo _ _ (Below.refl _ _) rfl⟩
          first | (go_simp; done) | (go_simp; rfl)
        | 38, _, hr, hgo =>
          have e36 : V 36 = .bool false := HI 36 (by omega) (dep_of hr (by kernel_rfl))
          have e37 : V 37 = .slice A3 D.length c3 := HI 37 (by omega) (dep_of hr (by kernel_rfl))
          refine op_call_w rfl (wanted_of rfl rfl rfl (congrArg some e36)) Try.func25 (by kernel_rfl) rfl #[.slice A3 D.length c3] rfl (by simp only [List.map_toArray, List.map_cons, List.map_nil]; show (⟨[V 37]⟩ : Array Value) = _; rw [e37]) ((impl_Short.calls A3 c3 D T W hR3_.c HC3.out HSho.out).mono ?_)
          rintro e W' ⟨v, rfl, ho, hb⟩
          obtain ⟨Av, cv, rfl⟩ := Kd.R_slice ho
          exact ⟨_, rfl, _, rfl, hgo _ _ hb ⟨Av, cv, rfl, RdB.of_R ho, (Kd.R_reads' ho).2.1⟩⟩
        | 39, _, hr, hgo =>
          have e36 : V 36 = .bool false := HI 36 (by omega) (dep_of hr (by kernel_rfl))
          obtain ⟨B38, b38, e38, hB38, hb38⟩ := HI 38 (by omega) (dep_of hr (by kernel_rfl))
          have hcv := Kd.C_string (src := 23) (dst := 9) Try.underlying23 Try.underlying5 Try.underlying9 (c := b38) (hB38).1
          refine op_val_w rfl (wanted_of rfl rfl rfl (congrArg some e36)) (v := .string (strOfNums T)) (w' := W) ?_ ⟨_, rfl, hgo _ _ (Below.refl _ _) rfl⟩
          first | (go_simp; done) | (go_simp; rfl)
        | 40, _, hr, hgo =>
          have e36 : V 36 = .bool false := HI 36 (by omega) (dep_of hr (by kernel_rfl))
          refine op_val_w rfl (wanted_of rfl rfl rfl (congrArg some e36)) (v := .slice A11 S.length k11) (w' := W) ?_ ⟨_, rfl, hgo _ _ (Below.refl _ _) rfl⟩
          first | (go_simp; done) | (go_simp; rfl)
        | 41, _, hr, hgo =>
          have e36 : V 36 = .bool false := HI 36 (by omega) (dep_of hr (by kernel_rfl))
          have e40 : V 40 = .slice A11 S.length k11 := HI 40 (by omega) (dep_of hr (by kernel_rfl))
          have hcut := cut_to (P := Try.prog) 23 5 .i64 Try.underlying23 (info_parts info5).choose_spec.1 A11 S.length k11 8 (by decide) (by have := LS.out; omega) HK11.out
          rw [show (8 : Int).toNat = T.length by rw [LT8.out]; rfl] at hcut
          refine op_val_w rfl (wanted_of rfl rfl rfl (congrArg some e36)) (v := .slice A11 T.length k11) (w' := W) ?_ ⟨_, rfl, hgo _ _ (Below.refl _ _) rfl⟩
          first | (go_simp; done) | (go_simp; rfl)
        | 42, _, hr, hgo =>
          have e36 : V 36 = .bool false := HI 36 (by omega) (dep_of hr (by kernel_rfl))
          have e41 : V 41 = .slice A11 T.length k11 := HI 41 (by omega) (dep_of hr (by kernel_rfl))
          have hT_ : RdB W A11 T := by rw [NT8.out]; exact hR11_.take 8 (by have := LS.out; omega)
          have hcv := Kd.C_string (src := 23) (dst := 9) Try.underlying23 Try.underlying5 Try.underlying9 (c := k11) (hT_).1
          refine op_val_w rfl (wanted_of rfl rfl rfl (congrArg some e36)) (v := .string (strOfNums T)) (w' := W) ?_ ⟨_, rfl, hgo _ _ (Below.refl _ _) rfl⟩
          first | (go_simp; done) | (go_simp; rfl)
        | 43, _, hr, hgo =>
          have e36 : V 36 = .bool false := HI 36 (by omega) (dep_of hr (by kernel_rfl))
          have e39 : V 39 = .string (strOfNums T) := HI 39 (by omega) (dep_of hr (by kernel_rfl))
          have e42 : V 42 = .string (strOfNums T) := HI 42 (by omega) (dep_of hr (by kernel_rfl))
          refine op_val_w rfl (wanted_of rfl rfl rfl (congrArg some e36)) (v := .bool false) (w' := W) ?_ ⟨_, rfl, hgo _ _ (Below.refl _ _) rfl⟩
          first | (go_simp; done) | (go_simp; rfl)
        | _ + 44, h, _, _ => exact absurd h (by omega)
      case hend =>
      clear HS HR3 HR1 HR2 HR11
      rintro listed a W11 ⟨Vc, rfl, HI, hS_, hR3_, hR1_, hR2_, hR11_⟩ hall
      have e36 : Vc 36 = .bool false := HI 36 (by omega) (hall 36 (by omega))
      have e43 : Vc 43 = .bool false := HI 43 (by omega) (hall 43 (by omega))
      simp only [List.drop_succ_cons, List.drop_zero, e36, e43]
      have HB := Aside0.mk hS_.1
      have HR3 := Aside0.mk hR3_
      clear hS_ hR3_ hR1_ hR2_ hR11_ HI hall e36 e43
      have HS : Aside0 (Arrs w W11 []) := ⟨HB.out, fun i g cs t h => by simp at h, fun i j g h cs ds t u e => by simp at e⟩
      clear HB
      have hcut16 := cut_to (P := Try.prog) 23 5 .i64 Try.underlying23 (info_parts info5).choose_spec.1 A3 D.length c3 ((m : Int) % 64) (by omega) (by have := HMD.out; omega) HC3.out
      rw [show ((m : Int) % 64).toNat = DM.length by rw [LDM.out]; omega] at hcut16
      go_upto_region 16 with (first
       | ((with_reducible refine gate_dst (N := 112) rfl ?_); refine lit_event (N := 112) ?hg112 ?hd112 [1, 2] (by simp) ?hr112 ?_; (case hd112 => rfl); (case hg112 => rfl); (case hr112 => first | (go_simp; done) | (go_simp; rfl)); intro A112 k112 w112 ho hb; have n0_ := Aside0.mk (HS.out.below hb); have n1_ := Aside0.mk (HR3.out.below hb); have HX := Aside0.mk (Kd.R_reads' ho).2; clear HS HR3 ho hb; have HS := n0_; have HR3 := n1_; clear n0_ n1_)
       | (go_at_call 29; ((with_reducible refine (laws_at.calls A0 c0 l0 2 _ _ (Kd.C_below H0_.out HS.out.b) HC0.out HA2.out).mono ?_); rintro e w114 ⟨rfl, hd⟩; have n0_ := Aside0.mk (HS.out.below hd.below); have n1_ := Aside0.mk (HR3.out.below hd.below); have n2_ := Aside0.mk (And.intro HX.out.1 (Kd.C_below HX.out.2 hd.below)); clear HS HR3 HX hd; have HS := n0_; have HR3 := n1_; have HX := n2_; clear n0_ n1_ n2_))
       | (go_at_call 31; first | ((with_reducible refine (HMk1.out _ A112 k112 HX.out.1 HX.out.2).mono ?_); rintro e w117 ⟨A12, k12, rfl, hA, hk, hb⟩; have HR12 := Aside0.mk hA; have HK12 := Aside0.mk hk; have n0_ := Aside0.mk (HS.out.below hb); have n1_ := Aside0.mk (HR3.out.below hb); clear HS HR3 HX hA hk hb; have HS := n0_; have HR3 := n1_; clear n0_ n1_) | ((with_reducible refine (HMk2.out _ A121 k121 HX.out.1 HX.out.2).mono ?_); rintro e w122 ⟨A14, k14, rfl, hA, hk, hb⟩; have HR14 := Aside0.mk hA; have HK14 := Aside0.mk hk; have n0_ := Aside0.mk (HS.out.below hb); have n1_ := Aside0.mk (HR3.out.below hb); have r_ := Aside0.mk (HR12.out.below hb); clear HR12; have HR12 := r_; clear r_; clear HS HR3 HX hA hk hb; have HS := n0_; have HR3 := n1_; clear n0_ n1_))
       | ((with_reducible refine gate_dst (N := 121) rfl ?_); refine lit_event (N := 121) ?hg121 ?hd121 [1, 2] (by simp) ?hr121 ?_; (case hd121 => rfl); (case hg121 => rfl); (case hr121 => first | (go_simp; done) | (go_simp; rfl)); intro A121 k121 w121 ho hb; have n0_ := Aside0.mk (HS.out.below hb); have n1_ := Aside0.mk (HR3.out.below hb); have r_ := Aside0.mk (HR12.out.below hb); clear HR12; have HR12 := r_; clear r_; have HX := Aside0.mk (Kd.R_reads' ho).2; clear HS HR3 ho hb; have HS := n0_; have HR3 := n1_; clear n0_ n1_)
       | ((with_reducible refine gate_dst (N := 126) rfl ?_); refine lit_event (N := 126) ?hg126 ?hd126 [7] (by simp) ?hr126 ?_; (case hd126 => rfl); (case hg126 => rfl); (case hr126 => first | (go_simp; done) | (go_simp; rfl)); intro A126 k126 w126 ho hb; have n0_ := Aside0.mk (HS.out.below hb); have n1_ := Aside0.mk (HR3.out.below hb); have r_ := Aside0.mk (HR12.out.below hb); clear HR12; have HR12 := r_; clear r_; have r_ := Aside0.mk (HR14.out.below hb); clear HR14; have HR14 := r_; clear r_; have HX := Aside0.mk (Kd.R_reads' ho).2; clear HS HR3 ho hb; have HS := n0_; have HR3 := n1_; clear n0_ n1_)
       | (go_at_call 32; ((with_reducible refine (HHm.out _ A126 A3 k126 c3 HX.out.1 HX.out.2 HR3.out).mono ?_); rintro e w131 ⟨A16, k16, rfl, hb⟩; have n0_ := Aside0.mk (HS.out.below hb); have r_ := Aside0.mk (HR12.out.below hb); clear HR12; have HR12 := r_; clear r_; have r_ := Aside0.mk (HR14.out.below hb); clear HR14; have HR14 := r_; clear r_; clear HS HR3 HX hb; have HS := n0_; clear n0_)))
      refine wp_region_stable 20 (by kernel_rfl) (by kernel_rfl) (fun listed a W => ∃ V : Nat → Value, a = (⟨#[.slice A0 l0.length c0, undef, .bool false, .slice A3 D.length c3, undef, undef, .int .i64 (m : Int), .pointer (some ⟨g7, 0, none⟩), .bool true, .pointer (some ⟨g9, 0, none⟩), .bool true, .slice A11 S.length k11, .slice A12 M1.length k12, .bool true, .slice A14 M2.length k14, .bool true, .slice A16 32 k16, .bool true, .slice A0 l0.length c0, .bool false, .slice A0 l0.length c0, .slice A3 D.length c3, .slice A3 D.length c3, .int .i64 (D.length : Int), .bool false, undef, undef, undef, undef, undef, undef, undef, undef, undef, undef, undef, undef, undef, undef, .slice A0 l0.length c0, .int .i64 x0, .slice A0 l0.length c0, .int .i64 x1, .int .i64 (wrap64 (x0 * x1)), .slice A3 D.length c3, .int .i64 (D.length : Int), .int .i64 (wrap64 ((D.length : Int) + 1)), .int .i64 (m : Int), Va 5, Va 0, Va 1, Va 2, Va 3, Va 4, Va 6, .bool true, Vb 5, Vb 0, Vb 1, Vb 2, Vb 3, Vb 4, Vb 6, .bool true, .slice A3 D.length c3, .slice A11 S.length k11, Vc 0, Vc 1, Vc 2, Vc 3, Vc 4, Vc 5, Vc 6, Vc 7, Vc 8, Vc 9, Vc 10, Vc 11, Vc 12, Vc 13, Vc 14, Vc 15, Vc 16, Vc 17, Vc 18, Vc 19, Vc 20, Vc 21, Vc 22, Vc 23, Vc 24, Vc 25, Vc 26, Vc 27, Vc 28, Vc 29, Vc 30, Vc 31, Vc 32, Vc 33, Vc 34, Vc 35, .bool false, Vc 37, Vc 38, Vc 39, Vc 40, Vc 41, Vc 42, .bool false, .bool false, .tuple #[.slice A12 M1.length k12, .bool true], .slice A112 2 k112, .slice A0 l0.length c0, .int .i64 x2, .int .i64 (Int.tmod x2 100), .int .i64 (wrap64 (20 + Int.tmod x2 100)), .tuple #[.slice A12 M1.length k12, .bool true], .slice A12 M1.length k12, .bool true, .tuple #[.slice A14 M2.length k14, .bool true], .slice A121 2 k121, .tuple #[.slice A14 M2.length k14, .bool true], .slice A14 M2.length k14, .bool true, .tuple #[.slice A16 32 k16, .bool true], .slice A126 1 k126, .slice A3 D.length c3, .int .i64 (m : Int), .int .i64 ((m : Int) % 64), .slice A3 DM.length c3, .tuple #[.slice A16 32 k16, .bool true], .slice A16 32 k16, .bool true, V 0, V 1, V 2, V 3, V 4, V 5, V 6, V 7, V 8, V 9, V 10, V 11, V 12, V 13, V 14, V 15, V 16, V 17, V 18, V 19], []⟩ : Act) ∧ StI (mkFact (tab16 (.slice A12 M1.length k12) (.slice A12 M2.length k12) (.slice A14 M2.length k14) (.slice A16 32 k16) (.string (strOfNums M2)))) 20 listed V W ∧ Arrs w W [] ∧ RdB W A12 M1 ∧ RdB W A14 M2) ?h0 ?hstep ?hend
      case h0 => exact ⟨fun _ => undef, rfl, (by intro j hj h; rw [getD_replicate_false] at h; cases h), HS.out.drew1, HR12.out.below (below_drew1 (Below.refl _ _)), HR14.out.below (below_drew1 (Below.refl _ _))⟩
      case hstep =>
        clear HS HR12 HR14
        rintro listed a W inv ⟨V, rfl, HI, hS_, hR12_, hR14_⟩ i hi hr
        have hgo : ∀ (v : Value) (W' : World), Below W.heap.size W W' → mkFact (tab16 (.slice A12 M1.length k12) (.slice A12 M2.length k12) (.slice A14 M2.length k14) (.slice A16 32 k16) (.string (strOfNums M2))) i v W' → StI (mkFact (tab16 (.slice A12 M1.length k12) (.slice A12 M2.length k12) (.slice A14 M2.length k14) (.slice A16 32 k16) (.string (strOfNums M2)))) 20 (listed.setIfInBounds i true) (fun j => if j = i then v else V j) W' ∧ Arrs w W' [] ∧ RdB W' A12 M1 ∧ RdB W' A14 M2 :=
          fun v W' hb hf => ⟨HI.step (fun j v h => mkFact_keep (fun A l h => h.below hb) j v h) i v hf, hS_.below hb, hR12_.below hb, hR14_.below hb⟩
        match i, hi, hr, hgo with
        | 0, _, hr, hgo =>
          refine op_val_w rfl (wanted_free rfl) (v := .bool true) (w' := W) ?_ ⟨_, rfl, hgo _ _ (Below.refl _ _) rfl⟩
          first | (go_simp; done) | (go_simp; rfl)
        | 1, _, hr, hgo =>
          have e0 : V 0 = .bool true := HI 0 (by omega) (dep_of hr (by kernel_rfl))
          refine op_val_w rfl (wanted_free rfl) (v := .bool true) (w' := W) ?_ ⟨_, rfl, hgo _ _ (Below.refl _ _) rfl⟩
          first | (go_simp; done) | (go_simp; rfl)
        | 2, _, hr, hgo =>
          have e1 : V 1 = .bool true := HI 1 (by omega) (dep_of hr (by kernel_rfl))
          refine op_val_w rfl (wanted_of rfl rfl rfl (congrArg some e1)) (v := .bool true) (w' := W) ?_ ⟨_, rfl, hgo _ _ (Below.refl _ _) rfl⟩
          first | (go_simp; done) | (go_simp; rfl)
        | 3, _, hr, hgo =>
          have e1 : V 1 = .bool true := HI 1 (by omega) (dep_of hr (by kernel_rfl))
          have e2 : V 2 = .bool true := HI 2 (by omega) (dep_of hr (by kernel_rfl))
          refine op_val_w rfl (wanted_free rfl) (v := .bool true) (w' := W) ?_ ⟨_, rfl, hgo _ _ (Below.refl _ _) rfl⟩
          first | (go_simp; done) | (go_simp; rfl)
        | 4, _, hr, hgo =>
          have e3 : V 3 = .bool true := HI 3 (by omega) (dep_of hr (by kernel_rfl))
          refine op_val_w rfl (wanted_free rfl) (v := .bool true) (w' := W) ?_ ⟨_, rfl, hgo _ _ (Below.refl _ _) rfl⟩
          first | (go_simp; done) | (go_simp; rfl)
        | 5, _, hr, hgo =>
          have e4 : V 4 = .bool true := HI 4 (by omega) (dep_of hr (by kernel_rfl))
          refine op_val_w rfl (wanted_of rfl rfl rfl (congrArg some e4)) (v := .slice A12 M1.length k12) (w' := W) ?_ ⟨_, rfl, hgo _ _ (Below.refl _ _) rfl⟩
          first | (go_simp; done) | (go_simp; rfl)
        | 6, _, hr, hgo =>
          have e4 : V 4 = .bool true := HI 4 (by omega) (dep_of hr (by kernel_rfl))
          have e5 : V 5 = .slice A12 M1.length k12 := HI 5 (by omega) (dep_of hr (by kernel_rfl))
          have hcut := cut_to (P := Try.prog) 23 5 .i64 Try.underlying23 (info_parts info5).choose_spec.1 A12 M1.length k12 20 (by decide) (by have := LM1.out; omega) HK12.out
          rw [show (20 : Int).toNat = M2.length by rw [LM2.out]; rfl] at hcut
          refine op_val_w rfl (wanted_of rfl rfl rfl (congrArg some e4)) (v := .slice A12 M2.length k12) (w' := W) ?_ ⟨_, rfl, hgo _ _ (Below.refl _ _) rfl⟩
          first | (go_simp; done) | (go_simp; rfl)
        | 7, _, hr, hgo =>
          have e4 : V 4 = .bool true := HI 4 (by omega) (dep_of hr (by kernel_rfl))
          have e6 : V 6 = .slice A12 M2.length k12 := HI 6 (by omega) (dep_of hr (by kernel_rfl))
          have hT_ : RdB W A12 M2 := by rw [NM.out]; exact hR12_.take 20 LM1.out
          have hcv := Kd.C_string (src := 23) (dst := 9) Try.underlying23 Try.underlying5 Try.underlying9 (c := k12) (hT_).1
          refine op_val_w rfl (wanted_of rfl rfl rfl (congrArg some e4)) (v := .string (strOfNums M2)) (w' := W) ?_ ⟨_, rfl, hgo _ _ (Below.refl _ _) rfl⟩
          first | (go_simp; done) | (go_simp; rfl)
        | 8, _, hr, hgo =>
          have e4 : V 4 = .bool true := HI 4 (by omega) (dep_of hr (by kernel_rfl))
          refine op_val_w rfl (wanted_of rfl rfl rfl (congrArg some e4)) (v := .slice A14 M2.length k14) (w' := W) ?_ ⟨_, rfl, hgo _ _ (Below.refl _ _) rfl⟩
          first | (go_simp; done) | (go_simp; rfl)
        | 9, _, hr, hgo =>
          have e4 : V 4 = .bool true := HI 4 (by omega) (dep_of hr (by kernel_rfl))
          have e8 : V 8 = .slice A14 M2.length k14 := HI 8 (by omega) (dep_of hr (by kernel_rfl))
          have hcv := Kd.C_string (src := 23) (dst := 9) Try.underlying23 Try.underlying5 Try.underlying9 (c := k14) (hR14_).1
          refine op_val_w rfl (wanted_of rfl rfl rfl (congrArg some e4)) (v := .string (strOfNums M2)) (w' := W) ?_ ⟨_, rfl, hgo _ _ (Below.refl _ _) rfl⟩
          first | (go_simp; done) | (go_simp; rfl)
        | 10, _, hr, hgo =>
          have e4 : V 4 = .bool true := HI 4 (by omega) (dep_of hr (by kernel_rfl))
          have e7 : V 7 = .string (strOfNums M2) := HI 7 (by omega) (dep_of hr (by kernel_rfl))
          have e9 : V 9 = .string (strOfNums M2) := HI 9 (by omega) (dep_of hr (by kernel_rfl))
          refine op_val_w rfl (wanted_of rfl rfl rfl (congrArg some e4)) (v := .bool true) (w' := W) ?_ ⟨_, rfl, hgo _ _ (Below.refl _ _) rfl⟩
          first | (go_simp; done) | (go_simp; rfl)
        | 11, _, hr, hgo =>
          have e4 : V 4 = .bool true := HI 4 (by omega) (dep_of hr (by kernel_rfl))
          have e10 : V 10 = .bool true := HI 10 (by omega) (dep_of hr (by kernel_rfl))
          refine op_val_w rfl (wanted_free rfl) (v := .bool true) (w' := W) ?_ ⟨_, rfl, hgo _ _ (Below.refl _ _) rfl⟩
          first | (go_simp; done) | (go_simp; rfl)
        | 12, _, hr, hgo =>
          have e11 : V 11 = .bool true := HI 11 (by omega) (dep_of hr (by kernel_rfl))
          refine op_val_w rfl (wanted_free rfl) (v := .bool true) (w' := W) ?_ ⟨_, rfl, hgo _ _ (Below.refl _ _) rfl⟩
          first | (go_simp; done) | (go_simp; rfl)
        | 13, _, hr, hgo =>
          have e12 : V 12 = .bool true := HI 12 (by omega) (dep_of hr (by kernel_rfl))
          refine op_val_w rfl (wanted_of rfl rfl rfl (congrArg some e12)) (v := .bool true) (w' := W) ?_ ⟨_, rfl, hgo _ _ (Below.refl _ _) rfl⟩
          first | (go_simp; done) | (go_simp; rfl)
        | 14, _, hr, hgo =>
          have e12 : V 12 = .bool true := HI 12 (by omega) (dep_of hr (by kernel_rfl))
          have e13 : V 13 = .bool true := HI 13 (by omega) (dep_of hr (by kernel_rfl))
          refine op_val_w rfl (wanted_free rfl) (v := .bool true) (w' := W) ?_ ⟨_, rfl, hgo _ _ (Below.refl _ _) rfl⟩
          first | (go_simp; done) | (go_simp; rfl)
        | 15, _, hr, hgo =>
          have e14 : V 14 = .bool true := HI 14 (by omega) (dep_of hr (by kernel_rfl))
          refine op_val_w rfl (wanted_free rfl) (v := .bool true) (w' := W) ?_ ⟨_, rfl, hgo _ _ (Below.refl _ _) rfl⟩
          first | (go_simp; done) | (go_simp; rfl)
        | 16, _, hr, hgo =>
          have e15 : V 15 = .bool true := HI 15 (by omega) (dep_of hr (by kernel_rfl))
          refine op_val_w rfl (wanted_of rfl rfl rfl (congrArg some e15)) (v := .slice A16 32 k16) (w' := W) ?_ ⟨_, rfl, hgo _ _ (Below.refl _ _) rfl⟩
          first | (go_simp; done) | (go_simp; rfl)
        | 17, _, hr, hgo =>
          have e15 : V 15 = .bool true := HI 15 (by omega) (dep_of hr (by kernel_rfl))
          have e16 : V 16 = .slice A16 32 k16 := HI 16 (by omega) (dep_of hr (by kernel_rfl))
          refine op_val_w rfl (wanted_of rfl rfl rfl (congrArg some e15)) (v := .int .i64 32) (w' := W) ?_ ⟨_, rfl, hgo _ _ (Below.refl _ _) rfl⟩
          first | (go_simp; done) | (go_simp; rfl)
        | 18, _, hr, hgo =>
          have e15 : V 15 = .bool true := HI 15 (by omega) (dep_of hr (by kernel_rfl))
          have e17 : V 17 = .int .i64 32 := HI 17 (by omega) (dep_of hr (by kernel_rfl))
          refine op_val_w rfl (wanted_of rfl rfl rfl (congrArg some e15)) (v := .bool true) (w' := W) ?_ ⟨_, rfl, hgo _ _ (Below.refl _ _) rfl⟩
          first | (go_simp; done) | (go_simp; rfl)
        | 19, _, hr, hgo =>
          have e15 : V 15 = .bool true := HI 15 (by omega) (dep_of hr (by kernel_rfl))
          have e18 : V 18 = .bool true := HI 18 (by omega) (dep_of hr (by kernel_rfl))
          refine op_val_w rfl (wanted_free rfl) (v := .bool true) (w' := W) ?_ ⟨_, rfl, hgo _ _ (Below.refl _ _) rfl⟩
          first | (go_simp; done) | (go_simp; rfl)
        | _ + 20, h, _, _ => exact absurd h (by omega)
      case hend =>
        clear HS HR12 HR14
        rintro listed a W16 ⟨Vd, rfl, HI, hS_, hR12_, hR14_⟩ hall
        have e19 : Vd 19 = .bool true := HI 19 (by omega) (hall 19 (by omega))
        simp only [List.drop_succ_cons, List.drop_zero, e19]
        have HB := Aside0.mk hS_.1
        clear hS_ hR12_ hR14_ HI hall e19
        go_wp2
        go_ret
        exact ⟨rfl, HB.out⟩
set_option maxHeartbeats 8000000 in
set_option maxRecDepth 100000 in
theorem lawBig (A0 : Option Addr) (c0 : Nat) (l0 : List Int) (w : World) (h0 : Kd.C (Kd.int .u8) w A0 l0.length l0) (hc0 : l0.length ≤ c0) (hbig : laws_big.f l0 = some true) :
    Calls Try.prog 7 #[.slice A0 l0.length c0] w fun e w' => e = .returned (.bool true) ∧ Below w.heap.size w w' := by
  have H0_ := Aside0.mk h0
  have HC0 := Aside0.mk hc0
  have HBig := Aside0.mk hbig
  have HB := Aside0.mk (Below.refl w.heap.size w)
  clear h0 hc0 hbig
  go_enter Try.func7, Try.ntmps7
  go_wp2_with (first
   | (go_at_call 26; ((with_reducible refine (laws_big.calls A0 c0 l0 _ _ (Kd.C_below H0_.out HB.out) HC0.out HBig.out).mono ?_); rintro e w19 ⟨rfl, hd⟩; have n0_ := Aside0.mk (below_step HB.out hd.below); clear HB hd; have HB := n0_; clear n0_)))
  go_ret
  exact ⟨rfl, HB.out⟩
set_option maxHeartbeats 8000000 in
set_option maxRecDepth 100000 in
theorem lawLong (K : Nat) (A0 : Option Addr) (c0 : Nat) (l0 D : List Int) (w : World) (h0 : Kd.C (Kd.int .u8) w A0 l0.length l0) (hc0 : l0.length ≤ c0)
    (hbig : laws_big.f l0 = some false) (hD : spec_DrawSha.f K l0 = some D) (hDl : 20000 < D.length) :
    Calls Try.prog 7 #[.slice A0 l0.length c0] w fun e w' => e = .returned (.bool true) ∧ Below w.heap.size w w' := by
  have LH0 : Aside0 (H0.length = 8) := ⟨by rw [H0_start]; rfl⟩
  have HF : Aside0 (∀ (W : World) (A : Option Addr) (c : Nat), RdB W A D → Calls Try.prog 28 #[.agg (SV H0 (.slice none 0 0) 0), .slice A D.length c] W fun e w' => ∃ Av cv, e = .returned (.tuple #[.agg (SV H0 (.slice Av 0 cv) 0), .bool false]) ∧ Below W.heap.size W w') := ⟨fun W A c h =>
    feedBad H0 LH0.out none A 0 c [] D 0 W (Kd.C_nil (Kd.int .u8) W) (by simp) (by simp) (by omega) (by omega) (by omega) (by kernel_rfl)⟩
  have HSha : Aside0 (impl_Sha.f D = some []) := ⟨by unfold impl_Sha.f; rw [if_pos (by omega)]⟩
  have H0_ := Aside0.mk h0
  have HC0 := Aside0.mk hc0
  have HBig := Aside0.mk hbig
  have HD := Aside0.mk hD
  have HS : Aside0 (Arrs w w []) := ⟨Arrs.refl w⟩
  have c1 : decide ((D.length : Int) > 20000) = true := decide_eq_true (by omega)
  clear h0 hc0 hbig hD hDl
  go_enter Try.func7, Try.ntmps7
  go_wp2_with (first
   | (go_at_call 26; ((with_reducible refine (laws_big.calls A0 c0 l0 _ _ (Kd.C_below H0_.out HS.out.b) HC0.out HBig.out).mono ?_); rintro e w19 ⟨rfl, hd⟩; have n0_ := Aside0.mk (HS.out.below hd.below); clear HS hd; have HS := n0_; clear n0_))
   | (go_at_call 27; ((with_reducible refine (spec_DrawSha.calls K A0 c0 l0 _ _ (Kd.C_below H0_.out HS.out.b) HC0.out HD.out).mono ?_); rintro e w21 ⟨v21, rfl, ho, hb⟩; obtain ⟨A3, c3, rfl⟩ := Kd.R_slice ho; have n0_ := Aside0.mk (HS.out.below hb); have HC3 := Aside0.mk (Kd.R_reads' ho).2.1; have HR3 := Aside0.mk (RdB.of_R ho); clear HS ho hb; have HS := n0_; clear n0_))
   | (go_at_call 15; ((with_reducible refine (impl_NewStream_ _).mono ?_); rintro e w26 ⟨rfl, hb⟩; have n0_ := Aside0.mk (HS.out.below hb); have n1_ := Aside0.mk (HR3.out.below hb); clear HS HR3 hb; have HS := n0_; have HR3 := n1_; clear n0_ n1_))
   | (go_at_call 28; ((with_reducible refine (HF.out _ A3 c3 HR3.out).mono ?_); rintro e w28 ⟨A28, c28, rfl, hb⟩; have n0_ := Aside0.mk (HS.out.below hb); have n1_ := Aside0.mk (HR3.out.below hb); clear HS HR3 hb; have HS := n0_; have HR3 := n1_; clear n0_ n1_))
   | ((with_reducible refine gate_dst (N := 4) rfl ?_); refine box_arrs2 ?hg4 (N := 4) ?hd4 (SV z8 (.slice none 0 0) 0) 28 HS ?hr4 ?_; (case hd4 => rfl); (case hg4 => rfl); (case hr4 => first | (go_simp; done) | (go_simp; rfl)); intro g4 w4 h_ k_; have r_ := Aside0.mk (HR3.out.below k_); clear HS HR3 k_; have HS := h_; have HR3 := r_; clear h_ r_)
   | ((with_reducible refine gate_store (t := 28) (p := 4) rfl ?_); refine store_arrs2 rfl 28 (.tmp 29) rfl rfl 0 (SV H0 (.slice A28 0 c28) 0) HS rfl rfl rfl (info_S _ _ _ LH0.out) (by rw [SV_size _ _ _ LH0.out]; rfl) (SV_one _ _ _ rfl) (by decide) ?_; intro w5 h_ k_; have r_ := Aside0.mk (k_ _ _ HR3.out); clear HS HR3 k_; have HS := h_; have HR3 := r_; clear h_ r_)
   | (go_at_call 20; ((with_reducible refine (impl_Sha.calls A3 c3 D [] _ HR3.out.c HC3.out HSha.out).mono ?_); rintro e w32 ⟨v32, rfl, ho, hb⟩; obtain ⟨A32, c32, rfl⟩ := Kd.R_slice ho; have n0_ := Aside0.mk (HS.out.below hb); clear HS HR3 ho hb; have HS := n0_; clear n0_)))
  go_ret
  exact ⟨rfl, HS.out.1⟩
theorem wf64 {n : Int} (h : (Lit.int .i64 n).wf = true) : -9223372036854775808 ≤ n ∧ n ≤ 9223372036854775807 := by
  simpa [Lit.wf, IntKind.min, IntKind.max, IntKind.signed, IntKind.bits] using h

theorem wsucc {i : Nat} (h : i ≤ 1099511627776) : wrap64 ((i : Int) + 1) = ((i + 1 : Nat) : Int) := by
  rw [w64 (by omega) (by omega)]
  omega

theorem wpred {i : Nat} (h : i ≤ 1099511627776) : wrap64 (((i + 1 : Nat) : Int) - 1) = (i : Int) := by
  rw [w64 (by omega) (by omega)]
  omega

theorem and255 (x : Int) : 0 ≤ Go.bits .and .i64 x 255 ∧ Go.bits .and .i64 x 255 ≤ 255 := by
  unfold Go.bits
  simp only [BitVec.toNat_and]
  have h : (BitVec.ofInt IntKind.i64.bits 255).toNat = 255 := by decide
  rw [h]
  have h2 : (BitVec.ofInt IntKind.i64.bits x).toNat &&& 255 ≤ 255 := Nat.and_le_right
  generalize (BitVec.ofInt IntKind.i64.bits x).toNat &&& 255 = n at *
  rw [IntKind.wrap_i64]
  omega

/-- The cursor stands in its bytes. -/
def Cur (b : List Int) (i : Int) : Prop := 0 ≤ i ∧ i ≤ b.length ∧ b.length ≤ 1099511627776

theorem byte_some {b : List Int} {i : Int} (h : Int) (c : Cur b i) : ∃ v i' h', spec_l1Byte.f b i h = some (v, i', h') ∧ 0 ≤ v ∧ v ≤ 255 ∧ Cur b i' := by
  unfold spec_l1Byte.f
  obtain ⟨c0, c1, c2⟩ := c
  by_cases hi : i < (b.length : Int)
  · rw [if_pos hi, if_pos c0]
    refine ⟨_, _, _, rfl, (and255 _).1, (and255 _).2, ?_⟩
    rw [w64 (by omega) (by omega)]
    exact ⟨by omega, by omega, c2⟩
  · rw [if_neg hi]
    exact ⟨_, _, _, rfl, (and255 _).1, (and255 _).2, c0, c1, c2⟩

theorem below_some {b : List Int} {i : Int} (h : Int) (c : Cur b i) {n : Int} (hn : 0 < n) (hn' : n ≤ 4611686018427387904) : ∃ v i' h', spec_l1Below.f b i h n = some (v, i', h') ∧ 0 ≤ v ∧ v < n ∧ Cur b i' := by
  unfold spec_l1Below.f
  rw [if_neg (by omega)]
  by_cases h1 : n ≤ 256
  · rw [if_pos h1]
    obtain ⟨v, i', h', e, v0, v1, c'⟩ := byte_some h c
    rw [e]
    simp only [Option.bind_some, if_neg (show ¬ n = 0 by omega), Int.tmod_eq_emod_of_nonneg v0]
    exact ⟨_, _, _, rfl, Int.emod_nonneg _ (by omega), Int.emod_lt_of_pos _ hn, c'⟩
  · rw [if_neg h1]
    obtain ⟨v, i', h', e, v0, v1, c'⟩ := byte_some h c
    obtain ⟨w, j, g, f, w0, w1, d⟩ := byte_some h' c'
    obtain ⟨x, j', g', f', x0, x1, d'⟩ := byte_some g d
    obtain ⟨y, j2, g2, f2, y0, y1, d2⟩ := byte_some g' d'
    rw [e]
    simp only [Option.bind_some, f, f', f2, if_neg (show ¬ n = 0 by omega)]
    rw [w64 (n := v * 16777216) (by omega) (by omega), w64 (n := w * 65536) (by omega) (by omega), w64 (n := v * 16777216 + w * 65536) (by omega) (by omega), w64 (n := x * 256) (by omega) (by omega), w64 (n := v * 16777216 + w * 65536 + x * 256) (by omega) (by omega), w64 (by omega) (by omega), Int.tmod_eq_emod_of_nonneg (by omega)]
    exact ⟨_, _, _, rfl, Int.emod_nonneg _ (by omega), Int.emod_lt_of_pos _ hn, d2⟩

theorem new_loop (l : List Int) (hl : l.length ≤ 1099511627776) : ∀ (d : Nat) (h i : Int), 0 ≤ i → (l.length : Int) - i = d → ∃ h', Ev (fun k => spec_l1New.l0 k l h i) (l, 0, h') := by
  intro d
  induction d with
  | zero =>
    intro h i h0 hd
    refine ⟨h, Ev.step (fun k => by rw [spec_l1New.l0]) ?_⟩
    simp only [if_neg (show ¬ i < (l.length : Int) by omega)]
    exact Ev.now _
  | succ d ih =>
    intro h i h0 hd
    by_cases h1 : i < 4000
    · obtain ⟨h', e⟩ := ih (Go.bits .and .i64 (wrap64 ((wrap64 ((wrap64 (h * 131)) + (wrap64 (rd l i)))) + 7)) 1073741823) (i + 1) (by omega) (by omega)
      refine ⟨h', Ev.step (fun k => by rw [spec_l1New.l0]) ?_⟩
      simp only [if_pos (show i < (l.length : Int) by omega), if_pos h1, if_pos h0]
      rw [w64 (n := i + 1) (by omega) (by omega)]
      exact e
    · refine ⟨h, Ev.step (fun k => by rw [spec_l1New.l0]) ?_⟩
      simp only [if_pos (show i < (l.length : Int) by omega), if_neg h1]
      exact Ev.now _

theorem new_some (l : List Int) (hl : l.length ≤ 1099511627776) : ∃ h', Ev (fun k => spec_l1New.f k l) (l, 0, h') ∧ Cur l 0 := by
  obtain ⟨h', e⟩ := new_loop l hl l.length (wrap64 (148148 + (l.length : Int))) 0 (by omega) (by omega)
  exact ⟨h', e, by unfold Cur; omega⟩
theorem at_some {l : List Int} (hw : ∀ x ∈ l, 0 ≤ x ∧ x ≤ 255) (hl : l.length ≤ 1048576) {i : Int} (h0 : 0 ≤ i) (h1 : i ≤ 1000) : ∃ v, laws_at.f l i = some v ∧ 0 ≤ v ∧ v ≤ 255 := by
  unfold laws_at.f
  by_cases h : i < (l.length : Int)
  · rw [if_pos h, if_pos h0]
    have hm := hw (rd l i) (by
      unfold rd
      rw [List.getD_eq_getElem?_getD, List.getElem?_eq_getElem (by omega), Option.getD_some]
      exact List.getElem_mem _)
    exact ⟨_, rfl, by rw [w64 (by omega) (by omega)]; omega, by rw [w64 (by omega) (by omega)]; omega⟩
  · rw [if_neg h]
    refine ⟨_, rfl, ?_⟩
    rw [w64 (n := i * 7) (by omega) (by omega), w64 (by omega) (by omega), Int.tmod_eq_emod_of_nonneg (by omega)]
    omega

theorem wfu8 {l : List Int} (h : ∀ x ∈ l, (Lit.int .u8 x).wf = true) : ∀ x ∈ l, 0 ≤ x ∧ x ≤ 255 := by
  intro x hx
  have := h x hx
  simpa [Lit.wf, IntKind.min, IntKind.max, IntKind.signed, IntKind.bits] using this
theorem pick_some {b : List Int} {i : Int} (h : Int) (c : Cur b i) {l : List Int} (hl : 0 < l.length) (hl' : l.length ≤ 1000) : ∃ v i' h', spec_l1PickInt.f b i h l = some (v, i', h') ∧ v ∈ l ∧ Cur b i' := by
  unfold spec_l1PickInt.f
  obtain ⟨v, i', h', e, v0, v1, c'⟩ := below_some h c (n := (l.length : Int)) (by omega) (by omega)
  rw [e]
  simp only [Option.bind_some, if_pos v0, if_pos v1]
  refine ⟨_, _, _, rfl, ?_, c'⟩
  unfold rd
  rw [List.getD_eq_getElem?_getD, List.getElem?_eq_getElem (by omega), Option.getD_some]
  exact List.getElem_mem _

theorem once_some {b : List Int} {i : Int} (h : Int) (c : Cur b i) {n : Int} (hn : 0 < n) (hn' : n ≤ 1000) : ∃ v i' h', spec_l1Once.f b i h n = some (v, i', h') ∧ Cur b i' := by
  unfold spec_l1Once.f
  obtain ⟨v, i', h', e, v0, v1, c'⟩ := below_some h c hn (by omega)
  rw [e]
  exact ⟨_, _, _, rfl, c'⟩
theorem drawData_loop (b : List Int) : ∀ (m : Nat) (n : Int) (x : List Int) (i h : Int), n.toNat ≤ m → n ≤ 1000 → x.length + n.toNat ≤ 1000 → Cur b i →
    ∃ l i' h', Ev (fun k => spec_l5DrawData.l0 k x n b i h) (l, i', h') := by
  intro m
  induction m with
  | zero =>
    intro n x i h hn hn' hx c
    refine ⟨x, i, h, Ev.step (fun k => by rw [spec_l5DrawData.l0]) ?_⟩
    simp only [if_neg (show ¬ n > 0 by omega)]
    exact Ev.now _
  | succ m ih =>
    intro n x i h hn hn' hx c
    by_cases h0 : n > 0
    · obtain ⟨v, i1, h1, e1, _, _, c1⟩ := byte_some h c
      obtain ⟨l, i', h', e⟩ := ih (n - 1) (x ++ [v % 256]) i1 h1 (by omega) (by omega) (by simp; omega) c1
      refine ⟨l, i', h', Ev.step (fun k => by rw [spec_l5DrawData.l0]) ?_⟩
      simp only [if_pos h0, e1, Option.bind_some, if_pos (show x.length < 140737488355328 by omega)]
      rw [w64 (by omega) (by omega)]
      exact e
    · exact ih n x i h (by omega) hn' hx c
theorem drawSha_some (l : List Int) (hl : l.length ≤ 1048576) : ∃ D, Ev (fun k => spec_DrawSha.f k l) D := by
  obtain ⟨h0, e0, c0⟩ := new_some l (by omega)
  obtain ⟨o, i1, h1, e1, c1⟩ := once_some h0 c0 (n := 80) (by omega) (by omega)
  unfold spec_DrawSha.f
  cases o with
  | true =>
    obtain ⟨v, i2, h2, e2, v0, v1, c2⟩ := below_some h1 c1 (n := 2) (by omega) (by omega)
    refine ⟨List.replicate (20000 + v).toNat 0, Ev.bind e0 ?_⟩
    refine Ev.bind (a := (List.replicate (20000 + v).toNat 0, i2, h2)) ?_ (Ev.now _)
    unfold spec_l5DrawLong.f
    simp only [e1, Option.bind_some, if_true, e2]
    rw [w64 (by omega) (by omega), if_pos (by omega), if_pos (by omega)]
    exact Ev.now _
  | false =>
    obtain ⟨o2, i2, h2, e2, c2⟩ := once_some h1 c1 (n := 4) (by omega) (by omega)
    cases o2 with
    | true =>
      obtain ⟨v, i3, h3, e3, hv, c3⟩ := pick_some h2 c2 (l := [55, 56, 63, 64, 65, 119, 120]) (by simp) (by simp)
      have hb : 0 ≤ v ∧ v ≤ 120 := by
        simp at hv
        omega
      refine ⟨List.replicate v.toNat 0, Ev.bind e0 ?_⟩
      refine Ev.bind (a := (List.replicate v.toNat 0, i3, h3)) ?_ (Ev.now _)
      unfold spec_l5DrawLong.f
      simp only [e1, e2, Option.bind_some, if_true, Bool.false_eq_true, if_false, e3]
      rw [if_pos (by omega), if_pos (by omega)]
      exact Ev.now _
    | false =>
      obtain ⟨v, i3, h3, e3, v0, v1, c3⟩ := below_some h2 c2 (n := 40) (by omega) (by omega)
      obtain ⟨r, i', h', e⟩ := drawData_loop l v.toNat v [] i3 h3 (Nat.le_refl _) (by omega) (by simp; omega) c3
      refine ⟨r, Ev.bind e0 (Ev.bind (a := (r, i', h')) ?_ (Ev.now _))⟩
      unfold spec_l5DrawLong.f
      simp only [e1, e2, Option.bind_some, Bool.false_eq_true, if_false]
      refine Ev.bind (a := (r, i', h')) ?_ (Ev.now _)
      unfold spec_l5DrawData.f
      simp only [e3, Option.bind_some]
      exact e

theorem law (a0 : Option Addr) (len0 cap0 : Nat) (z0 : List Int) (w : World) (w0 : (a0 = none ∧ len0 = 0 ∧ cap0 = 0 ∧ z0 = []) ∨ ∃ x, a0 = some x ∧ len0 ≤ cap0 ∧ cap0 ≤ maxLen ∧ z0.length = cap0 ∧ (∀ i, i < z0.length → w.cell? (x.add i) = some (.int .u8 (z0.getD i 0))) ∧ ∀ n ∈ z0, (Lit.int .u8 n).wf = true) :
    Calls Try.prog 7 #[.slice a0 len0 cap0] w fun e w' => e = .returned (.bool true) ∧ Below w.heap.size w w' := by
  obtain ⟨l0, rfl, hr0, hm0, hw0, hc0⟩ := ReadsInt.ofRowC w0
  have hC := Kd.C_of_reads (d := (0 : Int)) (h1 := fun _ => rfl) hr0
  by_cases hl : 1048576 < l0.length
  · exact lawBig a0 cap0 l0 w hC hc0 (by unfold laws_big.f; rw [decide_eq_true (by omega)])
  · have hb : laws_big.f l0 = some false := by unfold laws_big.f; rw [decide_eq_false (by omega)]
    have hw := wfu8 hw0
    obtain ⟨D, K, hK⟩ := drawSha_some l0 (by omega)
    by_cases hD : 20000 < D.length
    · exact lawLong K a0 cap0 l0 D w hC hc0 hb (hK K (Nat.le_refl _)) hD
    · obtain ⟨x0, e0, p0, q0⟩ := at_some hw (by omega) (i := 0) (by omega) (by omega)
      obtain ⟨x1, e1, p1, q1⟩ := at_some hw (by omega) (i := 1) (by omega) (by omega)
      obtain ⟨x2, e2, p2, q2⟩ := at_some hw (by omega) (i := 2) (by omega) (by omega)
      have k1 : 0 ≤ x0 * x1 := Int.mul_nonneg p0 p1
      have k2 : x0 * x1 ≤ 255 * 255 := Int.mul_le_mul q0 q1 p1 (by omega)
      obtain ⟨y, hy⟩ : ∃ y, x0 * x1 = y := ⟨_, rfl⟩
      have h1 : 0 ≤ y % ((D.length : Int) + 1) := Int.emod_nonneg _ (by omega)
      have h2 : y % ((D.length : Int) + 1) < (D.length : Int) + 1 := Int.emod_lt_of_pos _ (by omega)
      refine lawData K a0 cap0 l0 D x0 x1 x2 (y % ((D.length : Int) + 1)).toNat w hC hc0 hb (hK K (Nat.le_refl _)) (by omega) e0 e1 e2 ?_ (by omega) p2 q2
      rw [hy] at k1 k2 ⊢
      rw [w64 (by omega) (by omega), w64 (by omega) (by omega), Int.tmod_eq_emod_of_nonneg k1, Int.toNat_of_nonneg h1]
end Go.Proofs.Ytiffbeoignoedaa.PFnPieces
