/- SampleTaken: the law. -/
import Derived.Test.YtfgehfnlkakioaaW4
namespace Go.Proofs.Ytfgehfnlkakioaa.VC
open Go Go.Proofs

theorem mayO_t {r e t b n sc st se need : Int} (h1 : 1 ≤ r ∧ r ≤ 500) (h2 : e = 7 ∨ e = 9 ∨ e = 10 ∨ (e = 0 ∧ 0 ≤ t ∧ t ≤ 6000000000000000000 ∧ 0 ≤ b ∧ b ≤ 4611686018427387904)) (h3 : 0 ≤ sc ∧ 0 ≤ st ∧ st ≤ 6000000000000000000 ∧ 0 ≤ se ∧ se ≤ 1000000000)
    (h4 : 1 ≤ need ∧ need ≤ 100 ∧ 0 ≤ n ∧ n ≤ 1000) : mayO r e t b n sc st se need = true := chk_t ⟨h1.1, h1.2, chk_t h2, chk_t h3, h4⟩

theorem S59_ok : SpecOK Try.prog S59 := mkS_cons ok60 (mkS_nil _)
theorem loop59 {k : Exit → List Value → Heap → Out} : loopN Try.prog S59 noL Try.f59.ntmps 0 (loopOf Try.f59 0) live59 5 (st59 0) [cB 0 0 0, aB] k = k (.exit 0) (st59 4) [cB 0 0 0, aB] := by
  rw [loopN_succ, cf59r0, mayO_t (by decide) (by decide) (by decide) (by decide), show takenB _ _ _ _ _ = false from chk_f (by decide +kernel), show followsB _ _ _ _ _ _ _ = false from chk_f (by decide +kernel)]
  simp only [condT, condF]
  show loopN Try.prog S59 noL Try.f59.ntmps 0 (loopOf Try.f59 0) live59 4 (st59 1) [cB 1 0 1000000005000000000, aB] k = _
  rw [loopN_succ, cf59r1, mayO_t (by decide) (by decide) (by decide) (by decide), show takenB _ _ _ _ _ = false from chk_f (by decide +kernel), show followsB _ _ _ _ _ _ _ = true from chk_t (by decide +kernel)]
  simp only [condT, condF]
  show loopN Try.prog S59 noL Try.f59.ntmps 0 (loopOf Try.f59 0) live59 3 (st59 2) [cB 2 1000000000 1000000006000000000, aB] k = _
  rw [loopN_succ, cf59r2, mayO_t (by decide) (by decide) (by decide) (by decide), show takenB _ _ _ _ _ = false from chk_f (by decide +kernel), show followsB _ _ _ _ _ _ _ = true from chk_t (by decide +kernel)]
  simp only [condT, condF]
  show loopN Try.prog S59 noL Try.f59.ntmps 0 (loopOf Try.f59 0) live59 2 (st59 3) [cB 3 2000000000 1000000007000000000, aB] k = _
  rw [loopN_succ, cf59r3, mayO_t (by decide) (by decide) (by decide) (by decide), show takenB _ _ _ _ _ = false from chk_f (by decide +kernel), show followsB _ _ _ _ _ _ _ = true from chk_t (by decide +kernel)]
  simp only [condT, condF]
  show loopN Try.prog S59 noL Try.f59.ntmps 0 (loopOf Try.f59 0) live59 1 (st59 4) [cB 0 0 0, aB] k = _
  rw [loopN_succ, cf59r4]
theorem loopOK59 : LoopOK Try.prog Try.f59.ntmps 0 (loopOf Try.f59 0) live59 L59f := by
  refine LoopOK.of_rounds S59_ok follows_ok (L := noL) noL_ok ?_
  intro vs h k out hk
  unfold L59f at hk
  obtain ⟨hb, hk2⟩ := bif_t hk
  obtain ⟨rfl, rfl⟩ := chk_iff.1 hb
  exact ⟨_, _, _, hk2, fun _ => ⟨5, loop59⟩⟩
theorem loops59 : LoopsOK Try.prog L59 Try.f59.ntmps 0 (bodyOf Try.f59) := loops_one rfl (by kernel_rfl) loopOK59
theorem ok59 : EntryOK Try.prog 59 F22 := by
  refine EntryOK.of_fn S59_ok follows_ok Try.func59 (by kernel_rfl) (by kernel_rfl) ?_
  intro args h k out hF
  unfold F22 at hF
  split at hF
  · refine ⟨_, _, hF, fun _ => ⟨L59, loops59, ?_⟩⟩
    rw [cf59, mayO_t (by decide) (by decide) (by decide) (by decide), show takenB _ _ _ _ _ = true from chk_t (by decide +kernel), chk_t ⟨rfl, rfl⟩]
    simp only [condT]
  · cases hF
theorem S13_ok : SpecOK Try.prog S13 := mkS_cons ok59 (mkS_cons ok60 (mkS_nil _))
theorem law13 {r n cc ct at1 off bound e o need : Int} : fnK Try.prog S13 noL Try.f13 [w63 r, a3 n cc ct, w63 at1, w63 off, w63 bound, w63 e, w63 o, w63 need] [] = some (.ret (.bool true) []) := by
  refine (cf13 r n cc ct at1 off bound e o need).trans ?_
  refine dc (fun _ => rfl) (fun c1 => dc (fun _ => rfl) (fun c2 => dc (fun _ => rfl) (fun c3 => dc (fun _ => rfl) (fun c4 => dc (fun _ => rfl) (fun c5 => dc (fun _ => rfl) (fun c6 => ?_))))))
  rw [swrap (x := 0 - bound) (by omega) (by omega)]
  refine dc (fun _ => rfl) (fun c7 => dc (fun _ => rfl) (fun c8 => dc (fun _ => rfl) (fun c9 => dc (fun _ => rfl) (fun c10 => ?_))))
  rw [swrap (x := 0 - e) (by omega) (by omega)]
  refine dc (fun _ => rfl) (fun c11 => dc (fun _ => rfl) (fun c12 => dc (fun _ => rfl) (fun c13 => dc (fun _ => rfl) (fun c14 => dc (fun _ => rfl) (fun c15 => dc (fun _ => rfl) (fun c16 => ?_))))))
  rw [swrap (x := at1 + off) (by omega) (by omega), swrap (x := at1 + o) (by omega) (by omega),
    mayO_t (by omega) (.inr (.inr (.inr ⟨rfl, by omega⟩))) (by omega) (by omega), show takenB _ _ _ _ _ = true from chk_t (.inr (.inr ⟨by decide, by omega⟩)), condT, condT]
def F13 : FSpec := fun args h k => match args, h with
  | [.int .i64 _, .agg ⟨[.int .i64 _, .int .i64 _, .int .i64 _]⟩, .int .i64 _, .int .i64 _, .int .i64 _, .int .i64 _, .int .i64 _, .int .i64 _], [] => k (.bool true) []
  | _, _ => none
theorem ok13 : EntryOK Try.prog 13 F13 := by
  refine EntryOK.of_fn S13_ok follows_ok Try.func13 (by kernel_rfl) (by kernel_rfl) ?_
  intro args h k out hF
  unfold F13 at hF
  split at hF
  · exact ⟨_, _, hF, fun _ => ⟨noL, noL_ok, law13⟩⟩
  · cases hF
end Go.Proofs.Ytfgehfnlkakioaa.VC
