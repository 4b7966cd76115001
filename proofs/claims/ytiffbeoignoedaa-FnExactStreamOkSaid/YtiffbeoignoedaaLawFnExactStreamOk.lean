-- Written for this claim by a program of this session.
import Derived.Test.YtiffbeoignoedaaRows
import Derived.Test.YtiffbeoignoedaaPFnExactStreamOkx3
import Derived.WalkKit
import Derived.ProofKit
import Derived.OpenShut
import Derived.ShutString
import Derived.ChangeOld
import Derived.Below
import Derived.SizedLaws
import Derived.Deep.Fields
namespace Go.Proofs.Ytiffbeoignoedaa.fnExactStreamOk
open Go.ChangeShapes Go.WideShapes Go.ChangeAt Go.RowKit
open Go.ChangeMaps (open_string shut_string)
set_option linter.unusedVariables false
theorem own : ownKnob Try.prog.godebug = none := by kernel_rfl
theorem laidOut : laidOutB Try.prog = true := by kernel_rfl
def IsRow (k : IntKind) (w : World) (a : Option Addr) (len cap : Nat) (zs : List Int) : Prop :=
  (a = none ∧ len = 0 ∧ cap = 0 ∧ zs = []) ∨
  ∃ x, a = some x ∧ len ≤ cap ∧ cap ≤ maxLen ∧ zs.length = cap ∧ (∀ i, i < zs.length → w.cell? (x.add i) = some (.int k (zs.getD i 0))) ∧ ∀ n ∈ zs, (Lit.int k n).wf = true
open PFnExactStreamOk in
/-- A struct of eight numbers, a row of bytes and a number, by value, opened. -/
theorem open_stream {H : Type} {enc : TypeId × Value → H} {w : World} {base : Nat} {held : Bool} {r : Reach} {b0 : Nat} {v : Value} {d : DataW H} {p : List MemPlace} (hv : Value.okWide Try.prog w r b0 25 v) (h : DataW.Trod enc Try.prog w base (fun _ => true) held 25 v d p) :
    ∃ (Hs : List Int) (m : Int) (a : Option Addr) (len cap : Nat) (zs : List Int), Hs.length = 8 ∧ v = .agg (SV Hs (.slice a len cap) m) ∧ IsRow .u8 w a len cap zs := by
  have hs := Try.underlying25
  obtain ⟨cs, rfl, hsz⟩ := okWide_struct hs hv
  obtain ⟨l⟩ := cs
  have hC : Try.prog.cellsOf 25 = 10 := by kernel_rfl
  have k3 : Try.prog.cellsOf 3 = 1 := by kernel_rfl
  have k22 : Try.prog.cellsOf 22 = 8 := by kernel_rfl
  have k23 : Try.prog.cellsOf 23 = 1 := by kernel_rfl
  match l, hsz.trans hC with
  | [c0, c1, c2, c3, c4, c5, c6, c7, c8, c9], _ =>
    obtain ⟨fuel, hf⟩ := h
    obtain ⟨xs, n, _, hx, _, hlen, hg⟩ := DataW.trod_struct hs hf
    match xs, hlen with
    | [y0, y1, y2], _ =>
      have g0 : DataW.trod enc Try.prog w base (fun _ => true) held n 22 [c0, c1, c2, c3, c4, c5, c6, c7] = some y0 := by
        have h_ := hg 0 _ rfl
        simpa [Value.cells, k22] using h_
      have g1 : DataW.trod enc Try.prog w base (fun _ => true) held n 23 [c8] = some y1 := by
        have h_ := hg 1 _ rfl
        simpa [Value.cells, k23] using h_
      have g2 : DataW.trod enc Try.prog w base (fun _ => true) held n 3 [c9] = some y2 := by
        have h_ := hg 2 _ rfl
        simpa [Value.cells, k3] using h_
      obtain ⟨es, q, _, _, _, hl8, he⟩ := DataW.trod_array Try.underlying22 g0
      match es, hl8 with
      | [e0, e1, e2, e3, e4, e5, e6, e7], _ =>
        have f : ∀ (i : Nat) (ci : Value) (ei : DataW H × List MemPlace), i < 8 → ([c0, c1, c2, c3, c4, c5, c6, c7].drop i).take 1 = [ci] → [e0, e1, e2, e3, e4, e5, e6, e7][i]? = some ei → ∃ a : Int, ci = .int .i64 a := by
          intro i ci ei hi h1 h2
          have h3 := he i hi
          rw [k3, Nat.mul_one, h1, h2] at h3
          obtain ⟨a, ha, _⟩ := DataW.trod_int Try.underlying3 h3
          exact ⟨a, by simpa using ha⟩
        obtain ⟨a0, rfl⟩ := f 0 c0 e0 (by decide) rfl rfl
        obtain ⟨a1, rfl⟩ := f 1 c1 e1 (by decide) rfl rfl
        obtain ⟨a2, rfl⟩ := f 2 c2 e2 (by decide) rfl rfl
        obtain ⟨a3, rfl⟩ := f 3 c3 e3 (by decide) rfl rfl
        obtain ⟨a4, rfl⟩ := f 4 c4 e4 (by decide) rfl rfl
        obtain ⟨a5, rfl⟩ := f 5 c5 e5 (by decide) rfl rfl
        obtain ⟨a6, rfl⟩ := f 6 c6 e6 (by decide) rfl rfl
        obtain ⟨a7, rfl⟩ := f 7 c7 e7 (by decide) rfl rfl
        obtain ⟨m, hm, _⟩ := DataW.trod_int Try.underlying3 g2
        obtain rfl : c9 = .int .i64 m := by simpa using hm
        rcases open_ints Try.underlying23 Try.underlying5 (by kernel_rfl) g1 with ⟨hcs, _⟩ | ⟨x, l, c, zs, hcs, _, hl, hmx, hz, _, hcell, hwz⟩
        · obtain rfl : c8 = .slice none 0 0 := by simpa using hcs
          exact ⟨[a0, a1, a2, a3, a4, a5, a6, a7], m, none, 0, 0, [], rfl, rfl, .inl ⟨rfl, rfl, rfl, rfl⟩⟩
        · obtain rfl : c8 = .slice (some x) l c := by simpa using hcs
          exact ⟨[a0, a1, a2, a3, a4, a5, a6, a7], m, some x, l, c, zs, rfl, rfl, .inr ⟨_, rfl, hl, hmx, by simpa using hz, hcell, hwz⟩⟩
set_option maxRecDepth 100000 in
theorem lifted (os : Os) (started : os.Started) (H : Type) (enc : TypeId × Value → H) :
    ReturnsInHanded {} Try.checked os 3 .any (Rows.fnExactStreamOkSpec.pre6 enc Try.prog Try.f3 Rows.fnExactStreamOkRow.domain false) (Rows.fnExactStreamOkSpec.post enc Try.prog Try.f3 false true false false) := by
  refine returnsInHanded_of_change_sized (C := Try.checked) own started (by kernel_rfl) Try.func3
    (ChangeSpec.witness6 (enc := enc) (C := Try.checked) false ⟨#[], #[.agg #[.int .i64 0, .int .i64 0, .int .i64 0, .int .i64 0, .int .i64 0, .int .i64 0, .int .i64 0, .int .i64 0, .slice none 0 0, .int .i64 0]], []⟩ 8 (by kernel_rfl) (by kernel_rfl) (by kernel_rfl) (by kernel_rfl)) ?_
  intro W base args ds gs before hval0 hW hcnd hsz0 _
  have hsz : (DataW.weightsEach Try.prog (Try.f3.params.toList ++ Rows.fnExactStreamOkSpec.plain.varTypes Try.prog) (ds ++ gs)).all (· ≤ reachBytes) = true := hsz0
  have hval : ∀ (j : Nat) t v, Try.f3.params[j]? = some t → args[j]? = some v → Value.okWide Try.prog W .any base t v := hval0
  have hW' := hW
  obtain ⟨p, q, hA0, hV, rfl, hfz, hnd⟩ := hW
  have hA : DataW.TrodAll enc Try.prog W 0 (fun _ => true) true Try.f3.params.toList args.toList ds p := hA0
  rw [Try.params3] at hA hval hsz
  obtain ⟨v0, vs0, d0, ds0, p0, q0, hargs, rfl, rfl, h0, r0⟩ := trodAll_cons hA
  obtain ⟨rfl, rfl, rfl⟩ := trodAll_nil r0
  obtain rfl : args = #[v0] := by cases args; simp_all
  obtain ⟨rfl, rfl⟩ := trodVars_none hV
  have k0 := h0
  have lt0 : ∀ x ∈ p0, x.block < W.heap.size := by obtain ⟨m, hm⟩ := k0; exact DataW.trod_lt m _ _ _ hm
  obtain ⟨Hs, m0, a0, len0, cap0, z0, hH8, rfl, w0⟩ := open_stream (hval 0 25 v0 rfl rfl) h0
  clear hA0 hval0 hsz0 hsz
  refine (PFnExactStreamOk.law Hs hH8 m0 a0 len0 cap0 z0 W w0).mono fun e W' ⟨he, bel⟩ => ?_
  subst he
  exact ⟨_, rfl, _, _, _, [], _, [], hW', trodAll_mk1 (shut_bool Try.underlying4 _), (trodAll_cons_mk (Below.trod laidOut (by kernel_rfl) (of_decide_eq_true (by kernel_rfl)) k0 bel lt0) trodAll_mk0), rfl, bel.frame _, fun h => by cases h⟩
theorem over : Rows.fnExactStreamOkRow.holds Try.pinned (OpenSpec.ofChange Rows.fnExactStreamOkSpec) :=
  OpenClaim.holds_of_wide 3 Try.f3 rfl rfl rfl rfl rfl rfl rfl ⟨rfl, rfl, rfl, rfl, rfl⟩ rfl rfl rfl rfl rfl (by kernel_rfl) Try.func3 (by kernel_rfl)
    (of_decide_eq_true (by kernel_rfl)) (by unfold Func.isWrapper; first | (rw [if_pos (by decide +kernel)]; kernel_rfl) | (rw [if_neg (by decide +kernel)]; exact ⟨rfl, rfl⟩))
    (fun os started H enc _ => lifted os started H enc)
theorem proved : Rows.FnExactStreamOkSaid := over
#print axioms proved
end Go.Proofs.Ytiffbeoignoedaa.fnExactStreamOk
namespace Go.Proofs.Ytiffbeoignoedaa
/-- The row, under a short name, for the claim. -/
theorem fnExactStreamOk_holds : Rows.FnExactStreamOkSaid := fnExactStreamOk.proved
end Go.Proofs.Ytiffbeoignoedaa
