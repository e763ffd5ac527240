/-
  The row of 'Rows.SirfReadsSaid' ('remontoire/remontoirelaw13.SirfReads'): the law returns true, whatever its arguments. The walk is ours (by the evaluator, and the law, M24); the rest is the guide's template for laws that read memory (proof-skeleton.mjs, third state), turned to any readable arguments.
-/
import Derived.Test.YticdglfbgocgmaaRows
import Derived.WalkKit
import Derived.ProofKit
import Derived.OpenShut
import Derived.Below
import Derived.Test.YticdglfbgocgmaaOX
import Derived.Test.YticdglfbgocgmaaM24
namespace Go.Proofs.Yticdglfbgocgmaa.sirfReads
open Go.ChangeShapes Go.WideShapes Go.ChangeAt Go.RowKit
set_option linter.unusedVariables false

theorem own : ownKnob Try.prog.godebug = none := by kernel_rfl
theorem laidOut : laidOutB Try.prog = true := by kernel_rfl

set_option maxRecDepth 100000 in
theorem walk {H : Type} {enc : TypeId × Value → H} (W : World) (v0 : Value) {d0 : DataW H} {p0 : List MemPlace} {b0 : Nat}
    (g0 : Value.okWide Try.prog W .any b0 22 v0) (h0 : DataW.Trod enc Try.prog W 0 (fun _ => true) true 22 v0 d0 p0) (s0 : ∀ n ∈ d0.weights Try.prog 22, n ≤ reachBytes)
    : Calls Try.prog 6 #[v0] W fun e w' => e = .returned (.bool true) ∧ Below W.heap.size W w' := by
  have hr := VC.HR_nil W
  have ha := VC.allRead_nil
  obtain ⟨n0, x0, r0⟩ := VC.open_row (k := .u8) (es := 1) 9 Try.underlying22 (by kernel_rfl) (by decide) (by kernel_rfl) (fun h => absurd ((show Try.prog.bytesOf 5 = 1 by kernel_rfl).symm.trans h) (by decide)) g0 h0 s0
  obtain ⟨ι0, le0, hr0, vr0⟩ := r0.put hr ha
  have ha0 := ha.snoc (b := ⟨false, 1, [.ints .u8 (n0 * 1) x0]⟩) rfl
  rw [Nat.mul_one] at hr0 ha0
  exact VC.law_mem VC.ok6 (args := [.slice (some ⟨0, 0, none⟩) n0 2]) (fun k => VC.top6) hr0 ha0 (VC.VRs.cons vr0 VC.VRs.nil) (by kernel_rfl)

set_option maxRecDepth 100000 in
theorem lifted (os : Os) (started : os.Started) (H : Type) (enc : TypeId × Value → H) :
    ReturnsInHanded {} Try.checked os 6 .any (Rows.sirfReadsSpec.pre6 enc Try.prog Try.f6 Rows.sirfReadsRow.domain false) (Rows.sirfReadsSpec.post enc Try.prog Try.f6 false true false false) := by
  refine returnsInHanded_of_change_sized (C := Try.checked) own started (by kernel_rfl) Try.func6
    (ChangeSpec.witness6 (enc := enc) (C := Try.checked) false ⟨#[], #[.slice none 0 0], []⟩ 8 (by kernel_rfl) (by kernel_rfl) (by kernel_rfl) (by kernel_rfl)) ?_
  intro W base args ds gs before hval0 hW hcnd hsz _
  have hval : ∀ (j : Nat) t v, Try.f6.params[j]? = some t → args[j]? = some v → Value.okWide Try.prog W .any base t v := hval0
  have hW' := hW
  obtain ⟨p, q, hA0, hV, rfl, hfz, hnd⟩ := hW
  have hA : DataW.TrodAll enc Try.prog W 0 (fun _ => true) true Try.f6.params.toList args.toList ds p := hA0
  have hsz' : (DataW.weightsEach Try.prog (Try.f6.params.toList ++ Rows.sirfReadsSpec.plain.varTypes Try.prog) (ds ++ gs)).all (· ≤ reachBytes) = true := hsz
  rw [Try.params6] at hA hval hsz'
  obtain ⟨v0, vs0, d0, ds0, p0, q0, hargs, rfl, rfl, h0, r0⟩ := trodAll_cons hA
  obtain ⟨rfl, rfl, rfl⟩ := trodAll_nil r0
  obtain rfl : args = #[v0] := by cases args; simp_all
  obtain ⟨rfl, rfl⟩ := trodVars_none hV
  have lt0 : ∀ x ∈ p0, x.block < W.heap.size := by obtain ⟨m, hm⟩ := h0; exact DataW.trod_lt m _ _ _ hm
  have s0 : ∀ n ∈ d0.weights Try.prog 22, n ≤ reachBytes := fun n hn => by simpa using List.all_eq_true.1 hsz' n (DataW.weights_mem_each (j := 0) rfl rfl n hn)
  clear hA0 hval0
  refine (walk W v0 (hval 0 22 v0 rfl rfl) h0 s0).mono fun e W' ⟨he, bel⟩ => ?_
  subst he
  exact ⟨_, rfl, _, _, _, [], _, [], hW', trodAll_mk1 (shut_bool Try.underlying4 _), (trodAll_cons_mk (Below.trod laidOut (by kernel_rfl) (of_decide_eq_true (by kernel_rfl)) h0 bel lt0) trodAll_mk0), rfl, bel.frame _, fun h => by cases h⟩

theorem over : Rows.sirfReadsRow.holds Try.pinned (OpenSpec.ofChange Rows.sirfReadsSpec) :=
  OpenClaim.holds_of_wide 6 Try.f6 rfl rfl rfl rfl rfl rfl rfl ⟨rfl, rfl, rfl, rfl, rfl⟩ rfl rfl rfl rfl rfl (by kernel_rfl) Try.func6 (by kernel_rfl)
    (of_decide_eq_true (by kernel_rfl)) (by unfold Func.isWrapper; first | (rw [if_pos (by decide +kernel)]; kernel_rfl) | (rw [if_neg (by decide +kernel)]; exact ⟨rfl, rfl⟩))
    (fun os started H enc _ => lifted os started H enc)

theorem proved : Rows.SirfReadsSaid := over
#print axioms proved
end Go.Proofs.Yticdglfbgocgmaa.sirfReads
