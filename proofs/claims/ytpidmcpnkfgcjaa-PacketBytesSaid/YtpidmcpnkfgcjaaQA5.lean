/-
  The row of 'Rows.PacketBytesSaid' ('remontoire/remontoirelaw28.PacketBytes'): the law returns true, whatever its arguments. The walk is ours (by the evaluator, and the law, K7); the rest is the guide's template for laws that read memory (proof-skeleton.mjs, third state), turned to any readable arguments.
-/
import Derived.Test.YtpidmcpnkfgcjaaRows
import Derived.WalkKit
import Derived.ProofKit
import Derived.OpenShut
import Derived.Below
import Derived.Test.YtpidmcpnkfgcjaaOX
import Derived.Test.YtpidmcpnkfgcjaaK7
namespace Go.Proofs.Ytpidmcpnkfgcjaa.packetBytes
open Go.ChangeShapes Go.WideShapes Go.ChangeAt Go.RowKit
set_option linter.unusedVariables false

theorem own : ownKnob Try.prog.godebug = none := by kernel_rfl
theorem laidOut : laidOutB Try.prog = true := by kernel_rfl

set_option maxRecDepth 100000 in
theorem walk {H : Type} {enc : TypeId × Value → H} (W : World) (v0 v1 : Value) {d0 d1 : DataW H} {p0 p1 : List MemPlace} {b0 : Nat}
    (g0 : Value.okWide Try.prog W .any b0 44 v0) (h0 : DataW.Trod enc Try.prog W 0 (fun _ => true) true 44 v0 d0 p0) (s0 : ∀ n ∈ d0.weights Try.prog 44, n ≤ reachBytes)
    (g1 : Value.okWide Try.prog W .any b0 45 v1) (h1 : DataW.Trod enc Try.prog W 0 (fun _ => true) true 45 v1 d1 p1) (s1 : ∀ n ∈ d1.weights Try.prog 45, n ≤ reachBytes)
    : Calls Try.prog 5 #[v0, v1] W fun e w' => e = .returned (.bool true) ∧ Below W.heap.size W w' := by
  have hr := VC.HR_nil W
  have ha := VC.allRead_nil
  obtain ⟨l0, rfl, c0⟩ := VC.open_flat 9 (by kernel_rfl) (show VC.flatK Try.prog 9 44 = some [.i .u8, .i .u8, .i .u8, .i .u8, .i .i8, .i .i8, .i .u32, .i .u32, .i .u8, .i .u8, .i .u8, .i .u8, .i .u64, .i .u64, .i .u64, .i .u64] by kernel_rfl) g0 h0
  have f0 := c0
  obtain ⟨_, _, rfl, ⟨a0_0, rfl, _⟩, c0_0⟩ := c0.cons_inv
  obtain ⟨_, _, rfl, ⟨a0_1, rfl, _⟩, c0_1⟩ := c0_0.cons_inv
  obtain ⟨_, _, rfl, ⟨a0_2, rfl, _⟩, c0_2⟩ := c0_1.cons_inv
  obtain ⟨_, _, rfl, ⟨a0_3, rfl, _⟩, c0_3⟩ := c0_2.cons_inv
  obtain ⟨_, _, rfl, ⟨a0_4, rfl, _⟩, c0_4⟩ := c0_3.cons_inv
  obtain ⟨_, _, rfl, ⟨a0_5, rfl, _⟩, c0_5⟩ := c0_4.cons_inv
  obtain ⟨_, _, rfl, ⟨a0_6, rfl, _⟩, c0_6⟩ := c0_5.cons_inv
  obtain ⟨_, _, rfl, ⟨a0_7, rfl, _⟩, c0_7⟩ := c0_6.cons_inv
  obtain ⟨_, _, rfl, ⟨a0_8, rfl, _⟩, c0_8⟩ := c0_7.cons_inv
  obtain ⟨_, _, rfl, ⟨a0_9, rfl, _⟩, c0_9⟩ := c0_8.cons_inv
  obtain ⟨_, _, rfl, ⟨a0_10, rfl, _⟩, c0_10⟩ := c0_9.cons_inv
  obtain ⟨_, _, rfl, ⟨a0_11, rfl, _⟩, c0_11⟩ := c0_10.cons_inv
  obtain ⟨_, _, rfl, ⟨a0_12, rfl, _⟩, c0_12⟩ := c0_11.cons_inv
  obtain ⟨_, _, rfl, ⟨a0_13, rfl, _⟩, c0_13⟩ := c0_12.cons_inv
  obtain ⟨_, _, rfl, ⟨a0_14, rfl, _⟩, c0_14⟩ := c0_13.cons_inv
  obtain ⟨_, _, rfl, ⟨a0_15, rfl, _⟩, c0_15⟩ := c0_14.cons_inv
  obtain rfl := c0_15.nil_inv
  obtain ⟨n1, x1, r1⟩ := VC.open_row (k := .u8) (es := 1) 9 Try.underlying45 (by kernel_rfl) (by decide) (by kernel_rfl) (fun h => absurd ((show Try.prog.bytesOf 5 = 1 by kernel_rfl).symm.trans h) (by decide)) g1 h1 s1
  obtain ⟨ι1, le1, hr1, vr1⟩ := r1.put hr ha
  have ha1 := ha.snoc (b := ⟨false, 1, [.ints .u8 (n1 * 1) x1]⟩) rfl
  rw [Nat.mul_one] at hr1 ha1
  exact VC.law_mem VC.ok5 (args := [.agg ⟨[.int .u8 a0_0, .int .u8 a0_1, .int .u8 a0_2, .int .u8 a0_3, .int .i8 a0_4, .int .i8 a0_5, .int .u32 a0_6, .int .u32 a0_7, .int .u8 a0_8, .int .u8 a0_9, .int .u8 a0_10, .int .u8 a0_11, .int .u64 a0_12, .int .u64 a0_13, .int .u64 a0_14, .int .u64 a0_15]⟩, .slice (some ⟨0, 0, none⟩) n1 2]) (fun k => VC.top5) hr1 ha1 (VC.VRs.cons (VC.VR.flat f0) (VC.VRs.cons vr1 VC.VRs.nil)) (by kernel_rfl)

set_option maxRecDepth 100000 in
theorem lifted (os : Os) (started : os.Started) (H : Type) (enc : TypeId × Value → H) :
    ReturnsInHanded {} Try.checked os 5 .any (Rows.packetBytesSpec.pre6 enc Try.prog Try.f5 Rows.packetBytesRow.domain false) (Rows.packetBytesSpec.post enc Try.prog Try.f5 false true false false) := by
  refine returnsInHanded_of_change_sized (C := Try.checked) own started (by kernel_rfl) Try.func5
    (ChangeSpec.witness6 (enc := enc) (C := Try.checked) false ⟨#[], #[.agg #[.int .u8 0, .int .u8 0, .int .u8 0, .int .u8 0, .int .i8 0, .int .i8 0, .int .u32 0, .int .u32 0, .int .u8 0, .int .u8 0, .int .u8 0, .int .u8 0, .int .u64 0, .int .u64 0, .int .u64 0, .int .u64 0], .slice none 0 0], []⟩ 8 (by kernel_rfl) (by kernel_rfl) (by kernel_rfl) (by kernel_rfl)) ?_
  intro W base args ds gs before hval0 hW hcnd hsz _
  have hval : ∀ (j : Nat) t v, Try.f5.params[j]? = some t → args[j]? = some v → Value.okWide Try.prog W .any base t v := hval0
  have hW' := hW
  obtain ⟨p, q, hA0, hV, rfl, hfz, hnd⟩ := hW
  have hA : DataW.TrodAll enc Try.prog W 0 (fun _ => true) true Try.f5.params.toList args.toList ds p := hA0
  have hsz' : (DataW.weightsEach Try.prog (Try.f5.params.toList ++ Rows.packetBytesSpec.plain.varTypes Try.prog) (ds ++ gs)).all (· ≤ reachBytes) = true := hsz
  rw [Try.params5] at hA hval hsz'
  obtain ⟨v0, vs0, d0, ds0, p0, q0, hargs, rfl, rfl, h0, r0⟩ := trodAll_cons hA
  obtain ⟨v1, vs1, d1, ds1, p1, q1, rfl, rfl, rfl, h1, r1⟩ := trodAll_cons r0
  obtain ⟨rfl, rfl, rfl⟩ := trodAll_nil r1
  obtain rfl : args = #[v0, v1] := by cases args; simp_all
  obtain ⟨rfl, rfl⟩ := trodVars_none hV
  have lt0 : ∀ x ∈ p0, x.block < W.heap.size := by obtain ⟨m, hm⟩ := h0; exact DataW.trod_lt m _ _ _ hm
  have s0 : ∀ n ∈ d0.weights Try.prog 44, n ≤ reachBytes := fun n hn => by simpa using List.all_eq_true.1 hsz' n (DataW.weights_mem_each (j := 0) rfl rfl n hn)
  have lt1 : ∀ x ∈ p1, x.block < W.heap.size := by obtain ⟨m, hm⟩ := h1; exact DataW.trod_lt m _ _ _ hm
  have s1 : ∀ n ∈ d1.weights Try.prog 45, n ≤ reachBytes := fun n hn => by simpa using List.all_eq_true.1 hsz' n (DataW.weights_mem_each (j := 1) rfl rfl n hn)
  clear hA0 hval0
  refine (walk W v0 v1 (hval 0 44 v0 rfl rfl) h0 s0 (hval 1 45 v1 rfl rfl) h1 s1).mono fun e W' ⟨he, bel⟩ => ?_
  subst he
  exact ⟨_, rfl, _, _, _, [], _, [], hW', trodAll_mk1 (shut_bool Try.underlying4 _), (trodAll_cons_mk (Below.trod laidOut (by kernel_rfl) (of_decide_eq_true (by kernel_rfl)) h0 bel lt0) (trodAll_cons_mk (Below.trod laidOut (by kernel_rfl) (of_decide_eq_true (by kernel_rfl)) h1 bel lt1) trodAll_mk0)), rfl, bel.frame _, fun h => by cases h⟩

theorem over : Rows.packetBytesRow.holds Try.pinned (OpenSpec.ofChange Rows.packetBytesSpec) :=
  OpenClaim.holds_of_wide 5 Try.f5 rfl rfl rfl rfl rfl rfl rfl ⟨rfl, rfl, rfl, rfl, rfl⟩ rfl rfl rfl rfl rfl (by kernel_rfl) Try.func5 (by kernel_rfl)
    (of_decide_eq_true (by kernel_rfl)) (by unfold Func.isWrapper; first | (rw [if_pos (by decide +kernel)]; kernel_rfl) | (rw [if_neg (by decide +kernel)]; exact ⟨rfl, rfl⟩))
    (fun os started H enc _ => lifted os started H enc)

theorem proved : Rows.PacketBytesSaid := over
#print axioms proved
end Go.Proofs.Ytpidmcpnkfgcjaa.packetBytes
