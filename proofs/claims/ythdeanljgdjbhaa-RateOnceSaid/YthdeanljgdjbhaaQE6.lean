/-
  The row of 'Rows.RateOnceSaid' ('remontoire/remontoirelaw30.RateOnce'): the law returns true, whatever its arguments. The walk is ours (by the evaluator, and the law, RO5); the rest is the guide's template for laws that read memory (proof-skeleton.mjs, third state), turned to any readable arguments.
-/
import Derived.Test.YthdeanljgdjbhaaRows
import Derived.WalkKit
import Derived.ProofKit
import Derived.OpenShut
import Derived.Below
import Derived.Test.YthdeanljgdjbhaaOX
import Derived.Test.YthdeanljgdjbhaaRO5
namespace Go.Proofs.Ythdeanljgdjbhaa.rateOnce
open Go.ChangeShapes Go.WideShapes Go.ChangeAt Go.RowKit
set_option linter.unusedVariables false

theorem own : ownKnob Try.prog.godebug = none := by kernel_rfl
theorem laidOut : laidOutB Try.prog = true := by kernel_rfl

set_option maxRecDepth 100000 in
theorem walk {H : Type} {enc : TypeId × Value → H} (W : World) (v0 v1 v2 : Value) {d0 d1 d2 : DataW H} {p0 p1 p2 : List MemPlace} {b0 : Nat}
    (g0 : Value.okWide Try.prog W .any b0 2 v0) (h0 : DataW.Trod enc Try.prog W 0 (fun _ => true) true 2 v0 d0 p0) (s0 : ∀ n ∈ d0.weights Try.prog 2, n ≤ reachBytes)
    (g1 : Value.okWide Try.prog W .any b0 62 v1) (h1 : DataW.Trod enc Try.prog W 0 (fun _ => true) true 62 v1 d1 p1) (s1 : ∀ n ∈ d1.weights Try.prog 62, n ≤ reachBytes)
    (g2 : Value.okWide Try.prog W .any b0 63 v2) (h2 : DataW.Trod enc Try.prog W 0 (fun _ => true) true 63 v2 d2 p2) (s2 : ∀ n ∈ d2.weights Try.prog 63, n ≤ reachBytes)
    : Calls Try.prog 6 #[v0, v1, v2] W fun e w' => e = .returned (.bool true) ∧ Below W.heap.size W w' := by
  have hr := VC.HR_nil W
  have ha := VC.allRead_nil
  obtain ⟨a0, rfl, w0⟩ := VC.open_i Try.underlying2 g0 h0
  obtain ⟨n1, x1, r1⟩ := VC.open_row (k := .u32) (es := 1) 9 Try.underlying62 (by kernel_rfl) (by decide) (by kernel_rfl) (fun h => absurd ((show Try.prog.bytesOf 65 = 4 by kernel_rfl).symm.trans h) (by decide)) g1 h1 s1
  obtain ⟨ι1, le1, hr1, vr1⟩ := r1.put hr ha
  have ha1 := ha.snoc (b := ⟨false, 1, [.ints .u32 (n1 * 1) x1]⟩) rfl
  rw [Nat.mul_one] at hr1 ha1
  obtain ⟨n2, x2, r2⟩ := VC.open_row (k := .u8) (es := 1) 9 Try.underlying63 (by kernel_rfl) (by decide) (by kernel_rfl) (fun h => absurd ((show Try.prog.bytesOf 5 = 1 by kernel_rfl).symm.trans h) (by decide)) g2 h2 s2
  obtain ⟨ι2, le2, hr2, vr2⟩ := r2.put hr1 ha1
  have ha2 := ha1.snoc (b := ⟨false, 1, [.ints .u8 (n2 * 1) x2]⟩) rfl
  rw [Nat.mul_one] at hr2 ha2
  exact VC.law_mem VC.ok6 (args := [.int .i64 a0, .slice (some ⟨0, 0, none⟩) n1 2, .slice (some ⟨1, 0, none⟩) n2 2]) (fun k => VC.top6) hr2 ha2 (VC.VRs.cons (.int _ _ w0) (VC.VRs.cons (vr1.mono le2) (VC.VRs.cons vr2 VC.VRs.nil))) (by kernel_rfl)

set_option maxRecDepth 100000 in
theorem lifted (os : Os) (started : os.Started) (H : Type) (enc : TypeId × Value → H) :
    ReturnsInHanded {} Try.checked os 6 .any (Rows.rateOnceSpec.pre6 enc Try.prog Try.f6 Rows.rateOnceRow.domain false) (Rows.rateOnceSpec.post enc Try.prog Try.f6 false true false false) := by
  refine returnsInHanded_of_change_sized (C := Try.checked) own started (by kernel_rfl) Try.func6
    (ChangeSpec.witness6 (enc := enc) (C := Try.checked) false ⟨#[], #[.int .i64 0, .slice none 0 0, .slice none 0 0], []⟩ 8 (by kernel_rfl) (by kernel_rfl) (by kernel_rfl) (by kernel_rfl)) ?_
  intro W base args ds gs before hval0 hW hcnd hsz _
  have hval : ∀ (j : Nat) t v, Try.f6.params[j]? = some t → args[j]? = some v → Value.okWide Try.prog W .any base t v := hval0
  have hW' := hW
  obtain ⟨p, q, hA0, hV, rfl, hfz, hnd⟩ := hW
  have hA : DataW.TrodAll enc Try.prog W 0 (fun _ => true) true Try.f6.params.toList args.toList ds p := hA0
  have hsz' : (DataW.weightsEach Try.prog (Try.f6.params.toList ++ Rows.rateOnceSpec.plain.varTypes Try.prog) (ds ++ gs)).all (· ≤ reachBytes) = true := hsz
  rw [Try.params6] at hA hval hsz'
  obtain ⟨v0, vs0, d0, ds0, p0, q0, hargs, rfl, rfl, h0, r0⟩ := trodAll_cons hA
  obtain ⟨v1, vs1, d1, ds1, p1, q1, rfl, rfl, rfl, h1, r1⟩ := trodAll_cons r0
  obtain ⟨v2, vs2, d2, ds2, p2, q2, rfl, rfl, rfl, h2, r2⟩ := trodAll_cons r1
  obtain ⟨rfl, rfl, rfl⟩ := trodAll_nil r2
  obtain rfl : args = #[v0, v1, v2] := by cases args; simp_all
  obtain ⟨rfl, rfl⟩ := trodVars_none hV
  have lt0 : ∀ x ∈ p0, x.block < W.heap.size := by obtain ⟨m, hm⟩ := h0; exact DataW.trod_lt m _ _ _ hm
  have s0 : ∀ n ∈ d0.weights Try.prog 2, n ≤ reachBytes := fun n hn => by simpa using List.all_eq_true.1 hsz' n (DataW.weights_mem_each (j := 0) rfl rfl n hn)
  have lt1 : ∀ x ∈ p1, x.block < W.heap.size := by obtain ⟨m, hm⟩ := h1; exact DataW.trod_lt m _ _ _ hm
  have s1 : ∀ n ∈ d1.weights Try.prog 62, n ≤ reachBytes := fun n hn => by simpa using List.all_eq_true.1 hsz' n (DataW.weights_mem_each (j := 1) rfl rfl n hn)
  have lt2 : ∀ x ∈ p2, x.block < W.heap.size := by obtain ⟨m, hm⟩ := h2; exact DataW.trod_lt m _ _ _ hm
  have s2 : ∀ n ∈ d2.weights Try.prog 63, n ≤ reachBytes := fun n hn => by simpa using List.all_eq_true.1 hsz' n (DataW.weights_mem_each (j := 2) rfl rfl n hn)
  clear hA0 hval0
  refine (walk W v0 v1 v2 (hval 0 2 v0 rfl rfl) h0 s0 (hval 1 62 v1 rfl rfl) h1 s1 (hval 2 63 v2 rfl rfl) h2 s2).mono fun e W' ⟨he, bel⟩ => ?_
  subst he
  exact ⟨_, rfl, _, _, _, [], _, [], hW', trodAll_mk1 (shut_bool Try.underlying4 _), (trodAll_cons_mk (Below.trod laidOut (by kernel_rfl) (of_decide_eq_true (by kernel_rfl)) h0 bel lt0) (trodAll_cons_mk (Below.trod laidOut (by kernel_rfl) (of_decide_eq_true (by kernel_rfl)) h1 bel lt1) (trodAll_cons_mk (Below.trod laidOut (by kernel_rfl) (of_decide_eq_true (by kernel_rfl)) h2 bel lt2) trodAll_mk0))), rfl, bel.frame _, fun h => by cases h⟩

theorem over : Rows.rateOnceRow.holds Try.pinned (OpenSpec.ofChange Rows.rateOnceSpec) :=
  OpenClaim.holds_of_wide 6 Try.f6 rfl rfl rfl rfl rfl rfl rfl ⟨rfl, rfl, rfl, rfl, rfl⟩ rfl rfl rfl rfl rfl (by kernel_rfl) Try.func6 (by kernel_rfl)
    (of_decide_eq_true (by kernel_rfl)) (by unfold Func.isWrapper; first | (rw [if_pos (by decide +kernel)]; kernel_rfl) | (rw [if_neg (by decide +kernel)]; exact ⟨rfl, rfl⟩))
    (fun os started H enc _ => lifted os started H enc)

theorem proved : Rows.RateOnceSaid := over
#print axioms proved
end Go.Proofs.Ythdeanljgdjbhaa.rateOnce
