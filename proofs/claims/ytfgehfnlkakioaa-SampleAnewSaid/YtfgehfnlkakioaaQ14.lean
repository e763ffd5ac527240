/-
  The row of 'Rows.SampleAnewSaid' ('remontoire/remontoirelaw20.SampleAnew'): the law returns true, whatever its arguments. The walk is ours (by the evaluator, and the law, W10); the rest is the guide's template for laws that read memory (proof-skeleton.mjs, third state), turned to any readable arguments.
-/
import Derived.Test.YtfgehfnlkakioaaRows
import Derived.WalkKit
import Derived.ProofKit
import Derived.OpenShut
import Derived.Below
import Derived.Test.YtfgehfnlkakioaaOX
import Derived.Test.YtfgehfnlkakioaaW10
namespace Go.Proofs.Ytfgehfnlkakioaa.sampleAnew
open Go.ChangeShapes Go.WideShapes Go.ChangeAt Go.RowKit
set_option linter.unusedVariables false

theorem own : ownKnob Try.prog.godebug = none := by kernel_rfl
theorem laidOut : laidOutB Try.prog = true := by kernel_rfl

set_option maxRecDepth 100000 in
theorem walk {H : Type} {enc : TypeId × Value → H} (W : World) (v0 v1 v2 v3 v4 v5 : Value) {d0 d1 d2 d3 d4 d5 : DataW H} {p0 p1 p2 p3 p4 p5 : List MemPlace} {b0 : Nat}
    (g0 : Value.okWide Try.prog W .any b0 2 v0) (h0 : DataW.Trod enc Try.prog W 0 (fun _ => true) true 2 v0 d0 p0) (s0 : ∀ n ∈ d0.weights Try.prog 2, n ≤ reachBytes)
    (g1 : Value.okWide Try.prog W .any b0 67 v1) (h1 : DataW.Trod enc Try.prog W 0 (fun _ => true) true 67 v1 d1 p1) (s1 : ∀ n ∈ d1.weights Try.prog 67, n ≤ reachBytes)
    (g2 : Value.okWide Try.prog W .any b0 69 v2) (h2 : DataW.Trod enc Try.prog W 0 (fun _ => true) true 69 v2 d2 p2) (s2 : ∀ n ∈ d2.weights Try.prog 69, n ≤ reachBytes)
    (g3 : Value.okWide Try.prog W .any b0 62 v3) (h3 : DataW.Trod enc Try.prog W 0 (fun _ => true) true 62 v3 d3 p3) (s3 : ∀ n ∈ d3.weights Try.prog 62, n ≤ reachBytes)
    (g4 : Value.okWide Try.prog W .any b0 62 v4) (h4 : DataW.Trod enc Try.prog W 0 (fun _ => true) true 62 v4 d4 p4) (s4 : ∀ n ∈ d4.weights Try.prog 62, n ≤ reachBytes)
    (g5 : Value.okWide Try.prog W .any b0 77 v5) (h5 : DataW.Trod enc Try.prog W 0 (fun _ => true) true 77 v5 d5 p5) (s5 : ∀ n ∈ d5.weights Try.prog 77, n ≤ reachBytes)
    : Calls Try.prog 14 #[v0, v1, v2, v3, v4, v5] W fun e w' => e = .returned (.bool true) ∧ Below W.heap.size W w' := by
  have hr := VC.HR_nil W
  have ha := VC.allRead_nil
  obtain ⟨a0, rfl, w0⟩ := VC.open_i Try.underlying2 g0 h0
  obtain ⟨l1, rfl, c1⟩ := VC.open_flat 9 (by kernel_rfl) (show VC.flatK Try.prog 9 67 = some [.i .i64, .i .i64, .i .i64] by kernel_rfl) g1 h1
  have f1 := c1
  obtain ⟨_, _, rfl, ⟨a1_0, rfl, _⟩, c1_0⟩ := c1.cons_inv
  obtain ⟨_, _, rfl, ⟨a1_1, rfl, _⟩, c1_1⟩ := c1_0.cons_inv
  obtain ⟨_, _, rfl, ⟨a1_2, rfl, _⟩, c1_2⟩ := c1_1.cons_inv
  obtain rfl := c1_2.nil_inv
  obtain ⟨l2, rfl, c2⟩ := VC.open_flat 9 (by kernel_rfl) (show VC.flatK Try.prog 9 69 = some [.i .i64, .i .i64, .i .i64] by kernel_rfl) g2 h2
  have f2 := c2
  obtain ⟨_, _, rfl, ⟨a2_0, rfl, _⟩, c2_0⟩ := c2.cons_inv
  obtain ⟨_, _, rfl, ⟨a2_1, rfl, _⟩, c2_1⟩ := c2_0.cons_inv
  obtain ⟨_, _, rfl, ⟨a2_2, rfl, _⟩, c2_2⟩ := c2_1.cons_inv
  obtain rfl := c2_2.nil_inv
  obtain ⟨n3, x3, r3⟩ := VC.open_row (k := .i64) (es := 1) 9 Try.underlying62 (by kernel_rfl) (by decide) (by kernel_rfl) (fun h => absurd ((show Try.prog.bytesOf 2 = 8 by kernel_rfl).symm.trans h) (by decide)) g3 h3 s3
  obtain ⟨ι3, le3, hr3, vr3⟩ := r3.put hr ha
  have ha3 := ha.snoc (b := ⟨false, 1, [.ints .i64 (n3 * 1) x3]⟩) rfl
  rw [Nat.mul_one] at hr3 ha3
  obtain ⟨n4, x4, r4⟩ := VC.open_row (k := .i64) (es := 1) 9 Try.underlying62 (by kernel_rfl) (by decide) (by kernel_rfl) (fun h => absurd ((show Try.prog.bytesOf 2 = 8 by kernel_rfl).symm.trans h) (by decide)) g4 h4 s4
  obtain ⟨ι4, le4, hr4, vr4⟩ := r4.put hr3 ha3
  have ha4 := ha3.snoc (b := ⟨false, 1, [.ints .i64 (n4 * 1) x4]⟩) rfl
  rw [Nat.mul_one] at hr4 ha4
  obtain ⟨n5, x5, r5⟩ := VC.open_row (k := .i64) (es := 3) 9 Try.underlying77 (by kernel_rfl) (by decide) (by kernel_rfl) (fun h => absurd ((show Try.prog.bytesOf 65 = 24 by kernel_rfl).symm.trans h) (by decide)) g5 h5 s5
  obtain ⟨ι5, le5, hr5, vr5⟩ := r5.put hr4 ha4
  have ha5 := ha4.snoc (b := ⟨false, 3, [.ints .i64 (n5 * 3) x5]⟩) rfl
  exact VC.law_mem VC.ok14 (args := [.int .i64 a0, .agg ⟨[.int .i64 a1_0, .int .i64 a1_1, .int .i64 a1_2]⟩, .agg ⟨[.int .i64 a2_0, .int .i64 a2_1, .int .i64 a2_2]⟩, .slice (some ⟨0, 0, none⟩) n3 2, .slice (some ⟨1, 0, none⟩) n4 2, .slice (some ⟨2, 0, none⟩) n5 2]) (fun k => VC.top14) hr5 ha5 (VC.VRs.cons (.int _ _ w0) (VC.VRs.cons (VC.VR.flat f1) (VC.VRs.cons (VC.VR.flat f2) (VC.VRs.cons ((vr3.mono le4).mono le5) (VC.VRs.cons (vr4.mono le5) (VC.VRs.cons vr5 VC.VRs.nil)))))) (by kernel_rfl)

set_option maxRecDepth 100000 in
theorem lifted (os : Os) (started : os.Started) (H : Type) (enc : TypeId × Value → H) :
    ReturnsInHanded {} Try.checked os 14 .any (Rows.sampleAnewSpec.pre6 enc Try.prog Try.f14 Rows.sampleAnewRow.domain false) (Rows.sampleAnewSpec.post enc Try.prog Try.f14 false true false false) := by
  refine returnsInHanded_of_change_sized (C := Try.checked) own started (by kernel_rfl) Try.func14
    (ChangeSpec.witness6 (enc := enc) (C := Try.checked) false ⟨#[], #[.int .i64 0, .agg #[.int .i64 0, .int .i64 0, .int .i64 0], .agg #[.int .i64 0, .int .i64 0, .int .i64 0], .slice none 0 0, .slice none 0 0, .slice none 0 0], []⟩ 8 (by kernel_rfl) (by kernel_rfl) (by kernel_rfl) (by kernel_rfl)) ?_
  intro W base args ds gs before hval0 hW hcnd hsz _
  have hval : ∀ (j : Nat) t v, Try.f14.params[j]? = some t → args[j]? = some v → Value.okWide Try.prog W .any base t v := hval0
  have hW' := hW
  obtain ⟨p, q, hA0, hV, rfl, hfz, hnd⟩ := hW
  have hA : DataW.TrodAll enc Try.prog W 0 (fun _ => true) true Try.f14.params.toList args.toList ds p := hA0
  have hsz' : (DataW.weightsEach Try.prog (Try.f14.params.toList ++ Rows.sampleAnewSpec.plain.varTypes Try.prog) (ds ++ gs)).all (· ≤ reachBytes) = true := hsz
  rw [Try.params14] at hA hval hsz'
  obtain ⟨v0, vs0, d0, ds0, p0, q0, hargs, rfl, rfl, h0, r0⟩ := trodAll_cons hA
  obtain ⟨v1, vs1, d1, ds1, p1, q1, rfl, rfl, rfl, h1, r1⟩ := trodAll_cons r0
  obtain ⟨v2, vs2, d2, ds2, p2, q2, rfl, rfl, rfl, h2, r2⟩ := trodAll_cons r1
  obtain ⟨v3, vs3, d3, ds3, p3, q3, rfl, rfl, rfl, h3, r3⟩ := trodAll_cons r2
  obtain ⟨v4, vs4, d4, ds4, p4, q4, rfl, rfl, rfl, h4, r4⟩ := trodAll_cons r3
  obtain ⟨v5, vs5, d5, ds5, p5, q5, rfl, rfl, rfl, h5, r5⟩ := trodAll_cons r4
  obtain ⟨rfl, rfl, rfl⟩ := trodAll_nil r5
  obtain rfl : args = #[v0, v1, v2, v3, v4, v5] := by cases args; simp_all
  obtain ⟨rfl, rfl⟩ := trodVars_none hV
  have lt0 : ∀ x ∈ p0, x.block < W.heap.size := by obtain ⟨m, hm⟩ := h0; exact DataW.trod_lt m _ _ _ hm
  have s0 : ∀ n ∈ d0.weights Try.prog 2, n ≤ reachBytes := fun n hn => by simpa using List.all_eq_true.1 hsz' n (DataW.weights_mem_each (j := 0) rfl rfl n hn)
  have lt1 : ∀ x ∈ p1, x.block < W.heap.size := by obtain ⟨m, hm⟩ := h1; exact DataW.trod_lt m _ _ _ hm
  have s1 : ∀ n ∈ d1.weights Try.prog 67, n ≤ reachBytes := fun n hn => by simpa using List.all_eq_true.1 hsz' n (DataW.weights_mem_each (j := 1) rfl rfl n hn)
  have lt2 : ∀ x ∈ p2, x.block < W.heap.size := by obtain ⟨m, hm⟩ := h2; exact DataW.trod_lt m _ _ _ hm
  have s2 : ∀ n ∈ d2.weights Try.prog 69, n ≤ reachBytes := fun n hn => by simpa using List.all_eq_true.1 hsz' n (DataW.weights_mem_each (j := 2) rfl rfl n hn)
  have lt3 : ∀ x ∈ p3, x.block < W.heap.size := by obtain ⟨m, hm⟩ := h3; exact DataW.trod_lt m _ _ _ hm
  have s3 : ∀ n ∈ d3.weights Try.prog 62, n ≤ reachBytes := fun n hn => by simpa using List.all_eq_true.1 hsz' n (DataW.weights_mem_each (j := 3) rfl rfl n hn)
  have lt4 : ∀ x ∈ p4, x.block < W.heap.size := by obtain ⟨m, hm⟩ := h4; exact DataW.trod_lt m _ _ _ hm
  have s4 : ∀ n ∈ d4.weights Try.prog 62, n ≤ reachBytes := fun n hn => by simpa using List.all_eq_true.1 hsz' n (DataW.weights_mem_each (j := 4) rfl rfl n hn)
  have lt5 : ∀ x ∈ p5, x.block < W.heap.size := by obtain ⟨m, hm⟩ := h5; exact DataW.trod_lt m _ _ _ hm
  have s5 : ∀ n ∈ d5.weights Try.prog 77, n ≤ reachBytes := fun n hn => by simpa using List.all_eq_true.1 hsz' n (DataW.weights_mem_each (j := 5) rfl rfl n hn)
  clear hA0 hval0
  refine (walk W v0 v1 v2 v3 v4 v5 (hval 0 2 v0 rfl rfl) h0 s0 (hval 1 67 v1 rfl rfl) h1 s1 (hval 2 69 v2 rfl rfl) h2 s2 (hval 3 62 v3 rfl rfl) h3 s3 (hval 4 62 v4 rfl rfl) h4 s4 (hval 5 77 v5 rfl rfl) h5 s5).mono fun e W' ⟨he, bel⟩ => ?_
  subst he
  exact ⟨_, rfl, _, _, _, [], _, [], hW', trodAll_mk1 (shut_bool Try.underlying4 _), (trodAll_cons_mk (Below.trod laidOut (by kernel_rfl) (of_decide_eq_true (by kernel_rfl)) h0 bel lt0) (trodAll_cons_mk (Below.trod laidOut (by kernel_rfl) (of_decide_eq_true (by kernel_rfl)) h1 bel lt1) (trodAll_cons_mk (Below.trod laidOut (by kernel_rfl) (of_decide_eq_true (by kernel_rfl)) h2 bel lt2) (trodAll_cons_mk (Below.trod laidOut (by kernel_rfl) (of_decide_eq_true (by kernel_rfl)) h3 bel lt3) (trodAll_cons_mk (Below.trod laidOut (by kernel_rfl) (of_decide_eq_true (by kernel_rfl)) h4 bel lt4) (trodAll_cons_mk (Below.trod laidOut (by kernel_rfl) (of_decide_eq_true (by kernel_rfl)) h5 bel lt5) trodAll_mk0)))))), rfl, bel.frame _, fun h => by cases h⟩

theorem over : Rows.sampleAnewRow.holds Try.pinned (OpenSpec.ofChange Rows.sampleAnewSpec) :=
  OpenClaim.holds_of_wide 14 Try.f14 rfl rfl rfl rfl rfl rfl rfl ⟨rfl, rfl, rfl, rfl, rfl⟩ rfl rfl rfl rfl rfl (by kernel_rfl) Try.func14 (by kernel_rfl)
    (of_decide_eq_true (by kernel_rfl)) (by unfold Func.isWrapper; first | (rw [if_pos (by decide +kernel)]; kernel_rfl) | (rw [if_neg (by decide +kernel)]; exact ⟨rfl, rfl⟩))
    (fun os started H enc _ => lifted os started H enc)

theorem proved : Rows.SampleAnewSaid := over
#print axioms proved
end Go.Proofs.Ytfgehfnlkakioaa.sampleAnew
