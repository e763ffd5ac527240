/-
  The row of 'Rows.MacSumsSaid' ('remontoire/remontoirelaw29.MacSums'): the law returns true, whatever its arguments. The walk is ours (by the evaluator, and the law, SHI); the rest is the guide's template for laws that read memory (proof-skeleton.mjs, third state), turned to any readable arguments.
-/
import Derived.Test.YtcjjngdkkihgjaaRows
import Derived.WalkKit
import Derived.ProofKit
import Derived.OpenShut
import Derived.Below
import Derived.Test.YtcjjngdkkihgjaaOX
import Derived.Test.YtcjjngdkkihgjaaSHI
namespace Go.Proofs.Ytcjjngdkkihgjaa.macSums
open Go.ChangeShapes Go.WideShapes Go.ChangeAt Go.RowKit
set_option linter.unusedVariables false

theorem own : ownKnob Try.prog.godebug = none := by kernel_rfl
theorem laidOut : laidOutB Try.prog = true := by kernel_rfl

set_option maxRecDepth 100000 in
theorem walk {H : Type} {enc : TypeId × Value → H} (W : World) (v0 v1 : Value) {d0 d1 : DataW H} {p0 p1 : List MemPlace} {b0 : Nat}
    (g0 : Value.okWide Try.prog W .any b0 22 v0) (h0 : DataW.Trod enc Try.prog W 0 (fun _ => true) true 22 v0 d0 p0) (s0 : ∀ n ∈ d0.weights Try.prog 22, n ≤ reachBytes)
    (g1 : Value.okWide Try.prog W .any b0 50 v1) (h1 : DataW.Trod enc Try.prog W 0 (fun _ => true) true 50 v1 d1 p1) (s1 : ∀ n ∈ d1.weights Try.prog 50, n ≤ reachBytes)
    : Calls Try.prog 9 #[v0, v1] W fun e w' => e = .returned (.bool true) ∧ Below W.heap.size W w' := by
  have hr := VC.HR_nil W
  have ha := VC.allRead_nil
  obtain ⟨n0, x0, r0⟩ := VC.open_row (k := .u8) (es := 1) 9 Try.underlying22 (by kernel_rfl) (by decide) (by kernel_rfl) (fun h => absurd ((show Try.prog.bytesOf 5 = 1 by kernel_rfl).symm.trans h) (by decide)) g0 h0 s0
  obtain ⟨ι0, le0, hr0, vr0⟩ := r0.put hr ha
  have ha0 := ha.snoc (b := ⟨false, 1, [.ints .u8 (n0 * 1) x0]⟩) rfl
  rw [Nat.mul_one] at hr0 ha0
  obtain ⟨n1, x1, r1⟩ := VC.open_rowL (ks := [.i .u32, .l]) (L := [(56, 0, 1), (22, 1, 1)]) Try.underlying50 Try.underlying62 (by kernel_rfl) (fun j k hj => by
    rcases j with _ | _ | j
    · cases hj; exact ⟨56, rfl, by kernel_rfl⟩
    · cases hj; exact ⟨22, rfl, by kernel_rfl⟩
    · cases hj) (by decide) (by kernel_rfl) (of_decide_eq_false (by kernel_rfl)) g1 h1 s1
  obtain ⟨ι1, le1, hr1, vr1⟩ := r1.put hr0 ha0
  have ha1 := ha0.snoc (b := ⟨false, 2, [.any (n1 * 2) x1]⟩) rfl
  exact VC.law_mem VC.ok9 (args := [.slice (some ⟨0, 0, none⟩) n0 2, .slice (some ⟨1, 0, none⟩) n1 2]) (fun k => VC.top9 r0.small ⟨r1.kinds, r1.small⟩) hr1 ha1 (VC.VRs.cons (vr0.mono le1) (VC.VRs.cons vr1 VC.VRs.nil)) (by kernel_rfl)

set_option maxRecDepth 100000 in
theorem lifted (os : Os) (started : os.Started) (H : Type) (enc : TypeId × Value → H) :
    ReturnsInHanded {} Try.checked os 9 .any (Rows.macSumsSpec.pre6 enc Try.prog Try.f9 Rows.macSumsRow.domain false) (Rows.macSumsSpec.post enc Try.prog Try.f9 false true false false) := by
  refine returnsInHanded_of_change_sized (C := Try.checked) own started (by kernel_rfl) Try.func9
    (ChangeSpec.witness6 (enc := enc) (C := Try.checked) false ⟨#[], #[.slice none 0 0, .slice none 0 0], []⟩ 8 (by kernel_rfl) (by kernel_rfl) (by kernel_rfl) (by kernel_rfl)) ?_
  intro W base args ds gs before hval0 hW hcnd hsz _
  have hval : ∀ (j : Nat) t v, Try.f9.params[j]? = some t → args[j]? = some v → Value.okWide Try.prog W .any base t v := hval0
  have hW' := hW
  obtain ⟨p, q, hA0, hV, rfl, hfz, hnd⟩ := hW
  have hA : DataW.TrodAll enc Try.prog W 0 (fun _ => true) true Try.f9.params.toList args.toList ds p := hA0
  have hsz' : (DataW.weightsEach Try.prog (Try.f9.params.toList ++ Rows.macSumsSpec.plain.varTypes Try.prog) (ds ++ gs)).all (· ≤ reachBytes) = true := hsz
  rw [Try.params9] at hA hval hsz'
  obtain ⟨v0, vs0, d0, ds0, p0, q0, hargs, rfl, rfl, h0, r0⟩ := trodAll_cons hA
  obtain ⟨v1, vs1, d1, ds1, p1, q1, rfl, rfl, rfl, h1, r1⟩ := trodAll_cons r0
  obtain ⟨rfl, rfl, rfl⟩ := trodAll_nil r1
  obtain rfl : args = #[v0, v1] := by cases args; simp_all
  obtain ⟨rfl, rfl⟩ := trodVars_none hV
  have lt0 : ∀ x ∈ p0, x.block < W.heap.size := by obtain ⟨m, hm⟩ := h0; exact DataW.trod_lt m _ _ _ hm
  have s0 : ∀ n ∈ d0.weights Try.prog 22, n ≤ reachBytes := fun n hn => by simpa using List.all_eq_true.1 hsz' n (DataW.weights_mem_each (j := 0) rfl rfl n hn)
  have lt1 : ∀ x ∈ p1, x.block < W.heap.size := by obtain ⟨m, hm⟩ := h1; exact DataW.trod_lt m _ _ _ hm
  have s1 : ∀ n ∈ d1.weights Try.prog 50, n ≤ reachBytes := fun n hn => by simpa using List.all_eq_true.1 hsz' n (DataW.weights_mem_each (j := 1) rfl rfl n hn)
  clear hA0 hval0
  refine (walk W v0 v1 (hval 0 22 v0 rfl rfl) h0 s0 (hval 1 50 v1 rfl rfl) h1 s1).mono fun e W' ⟨he, bel⟩ => ?_
  subst he
  exact ⟨_, rfl, _, _, _, [], _, [], hW', trodAll_mk1 (shut_bool Try.underlying4 _), (trodAll_cons_mk (Below.trod laidOut (by kernel_rfl) (of_decide_eq_true (by kernel_rfl)) h0 bel lt0) (trodAll_cons_mk (Below.trod laidOut (by kernel_rfl) (of_decide_eq_true (by kernel_rfl)) h1 bel lt1) trodAll_mk0)), rfl, bel.frame _, fun h => by cases h⟩

theorem over : Rows.macSumsRow.holds Try.pinned (OpenSpec.ofChange Rows.macSumsSpec) :=
  OpenClaim.holds_of_wide 9 Try.f9 rfl rfl rfl rfl rfl rfl rfl ⟨rfl, rfl, rfl, rfl, rfl⟩ rfl rfl rfl rfl rfl (by kernel_rfl) Try.func9 (by kernel_rfl)
    (of_decide_eq_true (by kernel_rfl)) (by unfold Func.isWrapper; first | (rw [if_pos (by decide +kernel)]; kernel_rfl) | (rw [if_neg (by decide +kernel)]; exact ⟨rfl, rfl⟩))
    (fun os started H enc _ => lifted os started H enc)

theorem proved : Rows.MacSumsSaid := over
#print axioms proved
end Go.Proofs.Ytcjjngdkkihgjaa.macSums
