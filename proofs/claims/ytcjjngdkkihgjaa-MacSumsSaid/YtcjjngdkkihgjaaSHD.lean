/- SHA-256: three sums. -/
import Derived.Test.YtcjjngdkkihgjaaSHC
namespace Go.Proofs.Ytcjjngdkkihgjaa.VC
open Go Go.Proofs

/-- As turns, worked out. -/
noncomputable def turnsL (A : List Int) : Nat → Nat → List Int → List Int
  | 0, _, S => S
  | m + 1, i, S => turnsL A m (i + 64) (turnL A i S)
theorem turns_eq (A : List Int) : ∀ (m i : Nat) (S : List Int), turns A m i S = turnsL A m i S
  | 0, _, _ => rfl
  | m + 1, i, S => by rw [turns, turnsL, turnO_eq, turns_eq A m]
noncomputable def sumL (B : List Int) (n : Nat) : List Int := outB (turnsL (padL B n) ((n + 1 + zc (n + 1) + 8) / 64) 0 h0C)
theorem sumB_eq (B : List Int) (n : Nat) : sumB B n = sumL B n := by rw [sumB, sumW, turns_eq]; rfl
theorem sumNil : (sumL [] 0).take 4 = [227, 176, 196, 66] ∧ (sumL [] 0).drop 28 = [120, 82, 184, 85] := ⟨by kernel_rfl, by kernel_rfl⟩
theorem sumAbc : (sumL [97, 98, 99] 3).take 4 = [186, 120, 22, 191] ∧ (sumL [97, 98, 99] 3).drop 28 = [242, 0, 21, 173] := ⟨by kernel_rfl, by kernel_rfl⟩
abbrev msgL : List Int := [97, 98, 99, 100, 98, 99, 100, 101, 99, 100, 101, 102, 100, 101, 102, 103, 101, 102, 103, 104, 102, 103, 104, 105, 103, 104, 105, 106, 104, 105, 106, 107, 105, 106, 107, 108, 106, 107, 108, 109, 107, 108, 109, 110, 108, 109, 110, 111, 109, 110, 111, 112, 110, 111, 112, 113]
theorem sumMsg : (sumL msgL 56).take 4 = [36, 141, 106, 97] ∧ (sumL msgL 56).drop 28 = [25, 219, 6, 193] := ⟨by kernel_rfl, by kernel_rfl⟩
noncomputable def FSumB : FSpec := fun args h k => match h with
  | [] => FSumN args h k
  | _ => FSum args h k
theorem okSumB : EntryOK Try.prog 34 FSumB := by
  intro args h k out hF
  unfold FSumB at hF
  split at hF
  · exact okSumN args _ k out hF
  · exact okSum args _ k out hF
noncomputable def S33 : Spec := mkS [(34, false, FSumB)]
theorem S33_ok : SpecOK Try.prog S33 := mkS_cons okSumB (mkS_nil _)
theorem p33 : fnK Try.prog (S33.on [(14, true), (19, true), (24, true), (29, true), (34, true)]) noL Try.f33 [] [] =
    (bif chk (3 = 3 ∧ 3 ≤ 40000) then bif chk (56 = 56 ∧ 56 ≤ 40000) then bif ((strOf ((lst 32 (opq (sumB [] 0))).take 4)).toList == (ByteArray.mk #[(227 : UInt8), (176 : UInt8), (196 : UInt8), (66 : UInt8)]).toList) then bif ((strOf ((lst 32 (opq (sumB [] 0))).drop 28)).toList == (ByteArray.mk #[(120 : UInt8), (82 : UInt8), (184 : UInt8), (85 : UInt8)]).toList) then bif ((strOf ((lst 32 (opq (sumB [97, 98, 99] 3))).take 4)).toList == (ByteArray.mk #[(186 : UInt8), (120 : UInt8), (22 : UInt8), (191 : UInt8)]).toList) then bif ((strOf ((lst 32 (opq (sumB [97, 98, 99] 3))).drop 28)).toList == (ByteArray.mk #[(242 : UInt8), (0 : UInt8), (21 : UInt8), (173 : UInt8)]).toList) then bif ((strOf ((lst 32 (opq (sumB msgL 56))).take 4)).toList == (ByteArray.mk #[(36 : UInt8), (141 : UInt8), (106 : UInt8), (97 : UInt8)]).toList) then some (Res.ret (.bool ((strOf ((lst 32 (opq (sumB msgL 56))).drop 28)).toList == (ByteArray.mk #[(25 : UInt8), (219 : UInt8), (6 : UInt8), (193 : UInt8)]).toList)) []) else none else none else none else none else none else none else none) := by kernel_rfl
theorem sum4 {B : List Int} {n : Nat} : (lst 32 (opq (sumB B n))) = sumL B n := by rw [opq_eq, lst_eq (sumB_len B n), sumB_eq]
def FKnw29 : FSpec := fun args h k => match args, h with
  | [], [] => k (.bool true) []
  | _, _ => none
theorem okKnw29 : EntryOK Try.prog 33 FKnw29 := by
  refine EntryOK.of_paths (fn := Try.f33) follows_ok Try.func33 (by kernel_rfl) (by kernel_rfl) ?_
  intro args h k out hF
  unfold FKnw29 at hF
  split at hF
  · refine ⟨_, _, hF, fun _ => ⟨S33.on [(14, true), (19, true), (24, true), (29, true), (34, true)], noL, S33_ok, noL_ok, ?_⟩⟩
    rw [p33, sum4, sum4, sum4, sumNil.1, sumNil.2, sumAbc.1, sumAbc.2, sumMsg.1, sumMsg.2, chk_t ⟨rfl, by omega⟩, chk_t ⟨rfl, by omega⟩,
      show strOf [227, 176, 196, 66] = ByteArray.mk #[(227 : UInt8), (176 : UInt8), (196 : UInt8), (66 : UInt8)] from by kernel_rfl, show strOf [120, 82, 184, 85] = ByteArray.mk #[(120 : UInt8), (82 : UInt8), (184 : UInt8), (85 : UInt8)] from by kernel_rfl, show strOf [186, 120, 22, 191] = ByteArray.mk #[(186 : UInt8), (120 : UInt8), (22 : UInt8), (191 : UInt8)] from by kernel_rfl, show strOf [242, 0, 21, 173] = ByteArray.mk #[(242 : UInt8), (0 : UInt8), (21 : UInt8), (173 : UInt8)] from by kernel_rfl, show strOf [36, 141, 106, 97] = ByteArray.mk #[(36 : UInt8), (141 : UInt8), (106 : UInt8), (97 : UInt8)] from by kernel_rfl, show strOf [25, 219, 6, 193] = ByteArray.mk #[(25 : UInt8), (219 : UInt8), (6 : UInt8), (193 : UInt8)] from by kernel_rfl]
    simp only [beq_self_eq_true]
    rfl
  · cases hF
end Go.Proofs.Ytcjjngdkkihgjaa.VC
