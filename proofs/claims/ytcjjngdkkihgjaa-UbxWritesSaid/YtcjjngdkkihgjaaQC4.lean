/-
  The row of 'Rows.UbxWritesSaid' ('remontoire/remontoirelaw12.UbxWrites'): the law returns true, whatever its arguments. The walk is ours (by the evaluator, and the law, U25); the rest is the guide's template for laws that read memory (proof-skeleton.mjs, third state), turned to any readable arguments.
-/
import Derived.Test.YtcjjngdkkihgjaaRows
import Derived.WalkKit
import Derived.ProofKit
import Derived.OpenShut
import Derived.Below
import Derived.Test.YtcjjngdkkihgjaaOX
import Derived.Test.YtcjjngdkkihgjaaOZ
import Derived.Test.YtcjjngdkkihgjaaU25
namespace Go.Proofs.Ytcjjngdkkihgjaa.ubxWrites
open Go.ChangeShapes Go.WideShapes Go.ChangeAt Go.RowKit
set_option linter.unusedVariables false

theorem own : ownKnob Try.prog.godebug = none := by kernel_rfl
theorem laidOut : laidOutB Try.prog = true := by kernel_rfl

set_option maxRecDepth 100000 in
theorem walk {H : Type} {enc : TypeId × Value → H} (W : World) (v0 : Value) {d0 : DataW H} {p0 : List MemPlace} {b0 : Nat}
    (g0 : Value.okWide Try.prog W .any b0 26 v0) (h0 : DataW.Trod enc Try.prog W 0 (fun _ => true) true 26 v0 d0 p0) (s0 : ∀ n ∈ d0.weights Try.prog 26, n ≤ reachBytes)
    : Calls Try.prog 4 #[v0] W fun e w' => e = .returned (.bool true) ∧ Below W.heap.size W w' := by
  have hr := VC.HR_nil W
  have ha := VC.allRead_nil
  obtain ⟨l0, rfl, len0, F0⟩ := VC.open_st (L := [(5, 0, 1), (5, 1, 1), (24, 2, 1)]) Try.underlying26 (by kernel_rfl) (show Try.prog.cellsOf 26 = 3 by kernel_rfl) g0 h0 s0
  obtain ⟨c0_0, l0_0, rfl, len0_0⟩ := VC.len_succ len0
  obtain ⟨c0_1, l0_1, rfl, len0_1⟩ := VC.len_succ len0_0
  obtain ⟨c0_2, l0_2, rfl, len0_2⟩ := VC.len_succ len0_1
  obtain rfl := List.length_eq_zero_iff.1 len0_2
  obtain ⟨_, _, _, t0_0, u0_0⟩ := F0 0 _ _ _ rfl
  obtain ⟨_, _, e0_0, ⟨a0_0, rfl, w0_0⟩, _⟩ := (show VC.CellsAre [.i .u8] [c0_0] from VC.trod_flat 9 (show VC.flatK Try.prog 9 5 = some [.i .u8] by kernel_rfl) t0_0).cons_inv
  cases e0_0
  obtain ⟨_, _, _, t0_1, u0_1⟩ := F0 1 _ _ _ rfl
  obtain ⟨_, _, e0_1, ⟨a0_1, rfl, w0_1⟩, _⟩ := (show VC.CellsAre [.i .u8] [c0_1] from VC.trod_flat 9 (show VC.flatK Try.prog 9 5 = some [.i .u8] by kernel_rfl) t0_1).cons_inv
  cases e0_1
  obtain ⟨_, _, _, t0_2, u0_2⟩ := F0 2 _ _ _ rfl
  obtain ⟨v102, n102, x102, e102, r102⟩ := VC.open_rowT (k := .i64) (es := 1) 9 Try.underlying24 (by kernel_rfl) (by decide) (by kernel_rfl) (fun h => absurd ((show Try.prog.bytesOf 3 = 8 by kernel_rfl).symm.trans h) (by decide)) t0_2 u0_2
  cases (show [c0_2] = [v102] from e102)
  obtain ⟨ι102, le102, hr102, vr102⟩ := r102.put hr ha
  have ha102 := ha.snoc (b := ⟨false, 1, [.ints .i64 (n102 * 1) x102]⟩) rfl
  rw [Nat.mul_one] at hr102 ha102
  exact VC.law_mem VC.ok4 (args := [.agg ⟨[.int .u8 a0_0, .int .u8 a0_1, .slice (some ⟨0, 0, none⟩) n102 2]⟩]) (fun k => VC.top4) hr102 ha102 (VC.VRs.cons (VC.VRs.agg (cs := ⟨_⟩) (cs' := ⟨_⟩) (VC.VRs.cons (.int _ _ w0_0) (VC.VRs.cons (.int _ _ w0_1) (VC.VRs.cons vr102 VC.VRs.nil)))) VC.VRs.nil) (by kernel_rfl)

set_option maxRecDepth 100000 in
theorem lifted (os : Os) (started : os.Started) (H : Type) (enc : TypeId × Value → H) :
    ReturnsInHanded {} Try.checked os 4 .any (Rows.ubxWritesSpec.pre6 enc Try.prog Try.f4 Rows.ubxWritesRow.domain false) (Rows.ubxWritesSpec.post enc Try.prog Try.f4 false true false false) := by
  refine returnsInHanded_of_change_sized (C := Try.checked) own started (by kernel_rfl) Try.func4
    (ChangeSpec.witness6 (enc := enc) (C := Try.checked) false ⟨#[], #[.agg #[.int .u8 0, .int .u8 0, .slice none 0 0]], []⟩ 8 (by kernel_rfl) (by kernel_rfl) (by kernel_rfl) (by kernel_rfl)) ?_
  intro W base args ds gs before hval0 hW hcnd hsz _
  have hval : ∀ (j : Nat) t v, Try.f4.params[j]? = some t → args[j]? = some v → Value.okWide Try.prog W .any base t v := hval0
  have hW' := hW
  obtain ⟨p, q, hA0, hV, rfl, hfz, hnd⟩ := hW
  have hA : DataW.TrodAll enc Try.prog W 0 (fun _ => true) true Try.f4.params.toList args.toList ds p := hA0
  have hsz' : (DataW.weightsEach Try.prog (Try.f4.params.toList ++ Rows.ubxWritesSpec.plain.varTypes Try.prog) (ds ++ gs)).all (· ≤ reachBytes) = true := hsz
  rw [Try.params4] at hA hval hsz'
  obtain ⟨v0, vs0, d0, ds0, p0, q0, hargs, rfl, rfl, h0, r0⟩ := trodAll_cons hA
  obtain ⟨rfl, rfl, rfl⟩ := trodAll_nil r0
  obtain rfl : args = #[v0] := by cases args; simp_all
  obtain ⟨rfl, rfl⟩ := trodVars_none hV
  have lt0 : ∀ x ∈ p0, x.block < W.heap.size := by obtain ⟨m, hm⟩ := h0; exact DataW.trod_lt m _ _ _ hm
  have s0 : ∀ n ∈ d0.weights Try.prog 26, n ≤ reachBytes := fun n hn => by simpa using List.all_eq_true.1 hsz' n (DataW.weights_mem_each (j := 0) rfl rfl n hn)
  clear hA0 hval0
  refine (walk W v0 (hval 0 26 v0 rfl rfl) h0 s0).mono fun e W' ⟨he, bel⟩ => ?_
  subst he
  exact ⟨_, rfl, _, _, _, [], _, [], hW', trodAll_mk1 (shut_bool Try.underlying4 _), (trodAll_cons_mk (Below.trod laidOut (by kernel_rfl) (of_decide_eq_true (by kernel_rfl)) h0 bel lt0) trodAll_mk0), rfl, bel.frame _, fun h => by cases h⟩

theorem over : Rows.ubxWritesRow.holds Try.pinned (OpenSpec.ofChange Rows.ubxWritesSpec) :=
  OpenClaim.holds_of_wide 4 Try.f4 rfl rfl rfl rfl rfl rfl rfl ⟨rfl, rfl, rfl, rfl, rfl⟩ rfl rfl rfl rfl rfl (by kernel_rfl) Try.func4 (by kernel_rfl)
    (of_decide_eq_true (by kernel_rfl)) (by unfold Func.isWrapper; first | (rw [if_pos (by decide +kernel)]; kernel_rfl) | (rw [if_neg (by decide +kernel)]; exact ⟨rfl, rfl⟩))
    (fun os started H enc _ => lifted os started H enc)

theorem proved : Rows.UbxWritesSaid := over
#print axioms proved
end Go.Proofs.Ytcjjngdkkihgjaa.ubxWrites
