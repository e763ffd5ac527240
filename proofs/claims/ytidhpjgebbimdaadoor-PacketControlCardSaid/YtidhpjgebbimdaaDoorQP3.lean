/-
  The tied card 'Rows.PacketControlCardSaid' of 'remontoire/remontoirelaw28.PacketControl': the law returns true, whatever its argument; the two listed tables of unicode/utf8 are tied to the program's text (the given tie); the walk never reads them. The walk is ours (by the evaluator, and the law, KD2); the rest is the guide's template for laws that read memory (proof-skeleton.mjs, third state), turned to any readable arguments.
-/
import Derived.Test.YtidhpjgebbimdaaDoorCards
import Derived.Test.YtidhpjgebbimdaaDoorTie
import Derived.WalkKit
import Derived.ProofKit
import Derived.OpenShut
import Derived.Below
import Derived.Deep.DeepHandedRow
import Derived.Deep.DeepLaidRun
import Derived.Test.YtidhpjgebbimdaaDoorOX
import Derived.Test.YtidhpjgebbimdaaDoorOZ
import Derived.Test.YtidhpjgebbimdaaDoorKD2
namespace Go.Proofs.YtidhpjgebbimdaaDoor.packetControl
open Go.ChangeShapes Go.WideShapes Go.ChangeAt Go.RowKit
set_option linter.unusedVariables false

theorem own : ownKnob Tryd.prog.godebug = none := by kernel_rfl
theorem laidOut : laidOutB Tryd.prog = true := by kernel_rfl

set_option maxRecDepth 100000 in
theorem walk {H : Type} {enc : TypeId × Value → H} (W : World) (v0 : Value) {d0 : DataW H} {p0 : List MemPlace} {b0 : Nat}
    (g0 : Value.okWide Tryd.prog W .any b0 25 v0) (h0 : DataW.Trod enc Tryd.prog W 0 (fun _ => true) true 25 v0 d0 p0) (s0 : ∀ n ∈ d0.weights Tryd.prog 25, n ≤ reachBytes)
    : Calls Tryd.prog 3 #[v0] W fun e w' => e = .returned (.bool true) ∧ Below W.heap.size W w' := by
  have hr := VC.HR_nil W
  have ha := VC.allRead_nil
  obtain ⟨l0, rfl, len0, F0⟩ := VC.open_st (L := [(5, 0, 1), (5, 1, 1), (4, 2, 1), (4, 3, 1), (4, 4, 1), (22, 5, 1), (22, 6, 1), (22, 7, 1), (22, 8, 1), (23, 9, 1)]) Tryd.underlying25 (by kernel_rfl) (show Tryd.prog.cellsOf 25 = 10 by kernel_rfl) g0 h0 s0
  obtain ⟨c0_0, l0_0, rfl, len0_0⟩ := VC.len_succ len0
  obtain ⟨c0_1, l0_1, rfl, len0_1⟩ := VC.len_succ len0_0
  obtain ⟨c0_2, l0_2, rfl, len0_2⟩ := VC.len_succ len0_1
  obtain ⟨c0_3, l0_3, rfl, len0_3⟩ := VC.len_succ len0_2
  obtain ⟨c0_4, l0_4, rfl, len0_4⟩ := VC.len_succ len0_3
  obtain ⟨c0_5, l0_5, rfl, len0_5⟩ := VC.len_succ len0_4
  obtain ⟨c0_6, l0_6, rfl, len0_6⟩ := VC.len_succ len0_5
  obtain ⟨c0_7, l0_7, rfl, len0_7⟩ := VC.len_succ len0_6
  obtain ⟨c0_8, l0_8, rfl, len0_8⟩ := VC.len_succ len0_7
  obtain ⟨c0_9, l0_9, rfl, len0_9⟩ := VC.len_succ len0_8
  obtain rfl := List.length_eq_zero_iff.1 len0_9
  obtain ⟨_, _, _, t0_0, u0_0⟩ := F0 0 _ _ _ rfl
  obtain ⟨_, _, e0_0, ⟨a0_0, rfl, w0_0⟩, _⟩ := (show VC.CellsAre [.i .u8] [c0_0] from VC.trod_flat 9 (show VC.flatK Tryd.prog 9 5 = some [.i .u8] by kernel_rfl) t0_0).cons_inv
  cases e0_0
  obtain ⟨_, _, _, t0_1, u0_1⟩ := F0 1 _ _ _ rfl
  obtain ⟨_, _, e0_1, ⟨a0_1, rfl, w0_1⟩, _⟩ := (show VC.CellsAre [.i .u8] [c0_1] from VC.trod_flat 9 (show VC.flatK Tryd.prog 9 5 = some [.i .u8] by kernel_rfl) t0_1).cons_inv
  cases e0_1
  obtain ⟨_, _, _, t0_2, u0_2⟩ := F0 2 _ _ _ rfl
  obtain ⟨_, _, e0_2, ⟨a0_2, rfl⟩, _⟩ := (show VC.CellsAre [.b] [c0_2] from VC.trod_flat 9 (show VC.flatK Tryd.prog 9 4 = some [.b] by kernel_rfl) t0_2).cons_inv
  cases e0_2
  obtain ⟨_, _, _, t0_3, u0_3⟩ := F0 3 _ _ _ rfl
  obtain ⟨_, _, e0_3, ⟨a0_3, rfl⟩, _⟩ := (show VC.CellsAre [.b] [c0_3] from VC.trod_flat 9 (show VC.flatK Tryd.prog 9 4 = some [.b] by kernel_rfl) t0_3).cons_inv
  cases e0_3
  obtain ⟨_, _, _, t0_4, u0_4⟩ := F0 4 _ _ _ rfl
  obtain ⟨_, _, e0_4, ⟨a0_4, rfl⟩, _⟩ := (show VC.CellsAre [.b] [c0_4] from VC.trod_flat 9 (show VC.flatK Tryd.prog 9 4 = some [.b] by kernel_rfl) t0_4).cons_inv
  cases e0_4
  obtain ⟨_, _, _, t0_5, u0_5⟩ := F0 5 _ _ _ rfl
  obtain ⟨_, _, e0_5, ⟨a0_5, rfl, w0_5⟩, _⟩ := (show VC.CellsAre [.i .u16] [c0_5] from VC.trod_flat 9 (show VC.flatK Tryd.prog 9 22 = some [.i .u16] by kernel_rfl) t0_5).cons_inv
  cases e0_5
  obtain ⟨_, _, _, t0_6, u0_6⟩ := F0 6 _ _ _ rfl
  obtain ⟨_, _, e0_6, ⟨a0_6, rfl, w0_6⟩, _⟩ := (show VC.CellsAre [.i .u16] [c0_6] from VC.trod_flat 9 (show VC.flatK Tryd.prog 9 22 = some [.i .u16] by kernel_rfl) t0_6).cons_inv
  cases e0_6
  obtain ⟨_, _, _, t0_7, u0_7⟩ := F0 7 _ _ _ rfl
  obtain ⟨_, _, e0_7, ⟨a0_7, rfl, w0_7⟩, _⟩ := (show VC.CellsAre [.i .u16] [c0_7] from VC.trod_flat 9 (show VC.flatK Tryd.prog 9 22 = some [.i .u16] by kernel_rfl) t0_7).cons_inv
  cases e0_7
  obtain ⟨_, _, _, t0_8, u0_8⟩ := F0 8 _ _ _ rfl
  obtain ⟨_, _, e0_8, ⟨a0_8, rfl, w0_8⟩, _⟩ := (show VC.CellsAre [.i .u16] [c0_8] from VC.trod_flat 9 (show VC.flatK Tryd.prog 9 22 = some [.i .u16] by kernel_rfl) t0_8).cons_inv
  cases e0_8
  obtain ⟨_, _, _, t0_9, u0_9⟩ := F0 9 _ _ _ rfl
  obtain ⟨v109, n109, x109, e109, r109⟩ := VC.open_rowT (k := .u8) (es := 1) 9 Tryd.underlying23 (by kernel_rfl) (by decide) (by kernel_rfl) (fun h => absurd ((show Tryd.prog.bytesOf 5 = 1 by kernel_rfl).symm.trans h) (by decide)) t0_9 u0_9
  cases (show [c0_9] = [v109] from e109)
  obtain ⟨ι109, le109, hr109, vr109⟩ := r109.put hr ha
  have ha109 := ha.snoc (b := ⟨false, 1, [.ints .u8 (n109 * 1) x109]⟩) rfl
  rw [Nat.mul_one] at hr109 ha109
  exact VC.law_mem VC.ok3 (args := [.agg ⟨[.int .u8 a0_0, .int .u8 a0_1, .bool a0_2, .bool a0_3, .bool a0_4, .int .u16 a0_5, .int .u16 a0_6, .int .u16 a0_7, .int .u16 a0_8, .slice (some ⟨0, 0, none⟩) n109 2]⟩]) (fun k => VC.top3) hr109 ha109 (VC.VRs.cons (VC.VRs.agg (cs := ⟨_⟩) (cs' := ⟨_⟩) (VC.VRs.cons (.int _ _ w0_0) (VC.VRs.cons (.int _ _ w0_1) (VC.VRs.cons (.bool _) (VC.VRs.cons (.bool _) (VC.VRs.cons (.bool _) (VC.VRs.cons (.int _ _ w0_5) (VC.VRs.cons (.int _ _ w0_6) (VC.VRs.cons (.int _ _ w0_7) (VC.VRs.cons (.int _ _ w0_8) (VC.VRs.cons vr109 VC.VRs.nil))))))))))) VC.VRs.nil) (by kernel_rfl)

/-- The first table, holding what is laid. -/
def upd0 : Obj → Obj
  | .cells _ t frozen => .cells (Go.Pinned.utf8FirstZ.map fun n => Value.int .u8 (n : Nat)).toArray t frozen
  | o => o
/-- The second table, holding what is laid. -/
def upd1 : Obj → Obj
  | .cells _ t frozen => .cells #[.int .u8 128, .int .u8 191, .int .u8 160, .int .u8 191, .int .u8 128, .int .u8 159, .int .u8 144, .int .u8 191, .int .u8 128, .int .u8 143, .int .u8 0, .int .u8 0, .int .u8 0, .int .u8 0, .int .u8 0, .int .u8 0, .int .u8 0, .int .u8 0, .int .u8 0, .int .u8 0, .int .u8 0, .int .u8 0, .int .u8 0, .int .u8 0, .int .u8 0, .int .u8 0, .int .u8 0, .int .u8 0, .int .u8 0, .int .u8 0, .int .u8 0, .int .u8 0] t frozen
  | o => o
/-- A world for the witness: the settled one, the two tables holding what is laid. -/
noncomputable def laidWorld (os : Os) : World :=
  { World.holding Tryd.prog os ⟨#[], #[], []⟩ with heap := ((World.holding Tryd.prog os ⟨#[], #[], []⟩).heap.modify 0 upd0).modify 1 upd1 }
abbrev arg0 : Value := .agg #[.int .u8 0, .int .u8 0, .bool false, .bool false, .bool false, .int .u16 0, .int .u16 0, .int .u16 0, .int .u16 0, .slice none 0 0]
set_option maxRecDepth 100000 in
theorem laid_met (os : Os) : laidMet Tryd.prog Rows.packetControlRow.laid ((laidWorld os).forCall (fun _ _ => 0) ⟨#[], #[arg0], []⟩).memory :=
  laidMet_of_run3 8 (by kernel_rfl) (by kernel_rfl) (by kernel_rfl)
set_option maxRecDepth 100000 in
theorem reads (os : Os) {H : Type} (enc : TypeId × Value → H) : ∃ ds places, DataW.whole enc Tryd.prog ((laidWorld os).forCall (fun _ _ => 0) ⟨#[], #[arg0], []⟩).memory Tryd.f3.params.toList Rows.packetControlSpec.vars false #[arg0].toList 8 = some (ds, [], places) :=
  ⟨[.agg [.lit (.int .u8 0), .lit (.int .u8 0), .lit (.bool false), .lit (.bool false), .lit (.bool false), .lit (.int .u16 0), .lit (.int .u16 0), .lit (.int .u16 0), .lit (.int .u16 0), .nil]], [], by kernel_rfl⟩

set_option maxRecDepth 100000 in
theorem lifted (os : Os) (started : os.Started) (H : Type) (enc : TypeId × Value → H) (F : Stop.Interp) :
    ReturnsInHanded {} Tryd.checked os 3 .any ((OpenSpec.ofChange Rows.packetControlSpec).preRow enc Tryd.prog Tryd.f3 Rows.packetControlRow.domain false Rows.packetControlRow.laid) (((OpenSpec.ofChange Rows.packetControlSpec).at F).post enc Tryd.prog Tryd.f3 false true false false) := by
  obtain ⟨ds0, places, hx⟩ := reads os enc
  refine returnsInHanded_of_row (C := Tryd.checked) (s := OpenSpec.ofChange Rows.packetControlSpec) own started (by kernel_rfl) Tryd.func3
    (witness_row_at (enc := enc) (C := Tryd.checked) false (laidWorld os) #[arg0] rfl (by kernel_rfl) (by kernel_rfl) (by kernel_rfl)
      (OpenSpec.preRow_of_cond 8 hx (by kernel_rfl) (fun k hk => by cases hk) (by kernel_rfl) (laid_met os))) ?_
  clear hx
  intro W base args ds gs before hval0 hW _ _ hsz _ _ _
  have hval : ∀ (j : Nat) t v, Tryd.f3.params[j]? = some t → args[j]? = some v → Value.okWide Tryd.prog W .any base t v := hval0
  have hW' := hW
  obtain ⟨p, q, hA0, hV, rfl, hfz, hnd⟩ := hW
  have hA : DataW.TrodAll enc Tryd.prog W 0 (fun _ => true) true Tryd.f3.params.toList args.toList ds p := hA0
  have hsz' : (DataW.weightsEach Tryd.prog (Tryd.f3.params.toList ++ Rows.packetControlSpec.plain.varTypes Tryd.prog) (ds ++ gs)).all (· ≤ reachBytes) = true := hsz
  rw [Tryd.params3] at hA hval hsz'
  obtain ⟨v0, vs0, d0, ds0, p0, q0, hargs, rfl, rfl, h0, r0⟩ := trodAll_cons hA
  obtain ⟨rfl, rfl, rfl⟩ := trodAll_nil r0
  obtain rfl : args = #[v0] := by cases args; simp_all
  obtain ⟨rfl, rfl⟩ := trodVars_none hV
  have lt0 : ∀ x ∈ p0, x.block < W.heap.size := by obtain ⟨m, hm⟩ := h0; exact DataW.trod_lt m _ _ _ hm
  have s0 : ∀ n ∈ d0.weights Tryd.prog 25, n ≤ reachBytes := fun n hn => by simpa using List.all_eq_true.1 hsz' n (DataW.weights_mem_each (j := 0) rfl rfl n hn)
  clear hA0 hval0
  refine (walk W v0 (hval 0 25 v0 rfl rfl) h0 s0).mono fun e W' ⟨he, bel⟩ => ?_
  subst he
  exact ⟨_, rfl, _, _, _, [], _, [], hW', trodAll_mk1 (shut_bool Tryd.underlying4 _), (trodAll_cons_mk (Below.trod laidOut (by kernel_rfl) (of_decide_eq_true (by kernel_rfl)) h0 bel lt0) trodAll_mk0), rfl, bel.frame _, fun h => by cases h⟩

theorem over : Rows.PacketControlSaid :=
  OpenClaim.holds_of_cond 3 Tryd.f3 rfl rfl rfl rfl rfl rfl rfl ⟨rfl, rfl, rfl, rfl, rfl⟩ rfl rfl rfl rfl rfl (by kernel_rfl) Tryd.func3 (by kernel_rfl)
    (of_decide_eq_true (by kernel_rfl)) (by unfold Func.isWrapper; first | (rw [if_pos (by decide +kernel)]; kernel_rfl) | (rw [if_neg (by decide +kernel)]; exact ⟨rfl, rfl⟩))
    (fun os started H enc _ F => by rw [OpenClaim.pre_eq_preRow]; exact lifted os started H enc F)

/-- No parameter wants a stand-in; the program's own looks are off: what the card asks. -/
theorem plain (f : FuncId) (fn : Func) (hf : Tryd.pinned.checked.prog.funcNamed "remontoire/remontoirelaw28.PacketControl" = some f) (hfn : Tryd.pinned.checked.prog.funcs[f]? = some fn) :
    false = Tryd.pinned.checked.prog.looks [] ∧ ∀ (j : Nat) t, fn.params[j]? = some t → Tryd.pinned.checked.prog.wantsStandIn t = false := by
  obtain rfl : f = 3 := Option.some.inj ((show Tryd.prog.funcNamed "remontoire/remontoirelaw28.PacketControl" = some 3 by kernel_rfl).symm.trans hf) |>.symm
  obtain rfl : fn = Tryd.f3 := (Option.some.inj (Tryd.func3.symm.trans hfn)).symm
  refine ⟨by kernel_rfl, fun j t ht => ?_⟩
  rw [Tryd.params3] at ht
  obtain rfl : t = 25 := by simpa using Array.mem_of_getElem? ht
  exact (show Tryd.prog.wantsStandIn 25 = false by kernel_rfl)

theorem proved : Rows.PacketControlCardSaid :=
  Claim7.holds_tied_plain_at .later [] _ _ _ _ over (fun _ h => by cases h) (by kernel_rfl) (fun _ h => by cases h) packetControl_row_tie rfl ⟨rfl, rfl⟩ (by kernel_rfl) rfl plain (by kernel_rfl)
#print axioms proved
end Go.Proofs.YtidhpjgebbimdaaDoor.packetControl
