/- SatSums: the law's closed form. -/
import Derived.Test.YtfgehfnlkakioaaR11
import Derived.Test.YtfgehfnlkakioaaL4
namespace Go.Proofs.Ytfgehfnlkakioaa.VC
open Go Go.Proofs

def Skn : Spec := mkS [(19, false, F19), (21, false, F21), (23, false, F23), (26, false, F26), (30, false, F30), (33, false, F33)]
theorem Skn_ok : SpecOK Try.prog Skn := mkS_cons ok19 (mkS_cons ok21 (mkS_cons ok23 (mkS_cons ok26 (mkS_cons ok30 (mkS_cons ok33 (mkS_nil _))))))
--CF cf22 . :: fnK Try.prog Skn noL Try.f22 [] []
theorem cf22  : fnK Try.prog Skn noL Try.f22 [] [] =
    (some (Res.ret (Value.bool true) [])) := by kernel_rfl
--CFEND
def F22 : FSpec := fun args h k => match args, h with
  | [], [] => k (.bool true) []
  | _, _ => none
theorem ok22 : EntryOK Try.prog 22 F22 := by
  refine EntryOK.of_fn Skn_ok follows_ok Try.func22 (by kernel_rfl) (by kernel_rfl) ?_
  intro args h k out hF
  unfold F22 at hF
  split at hF
  · exact ⟨_, _, hF, fun real => ⟨noL, noL_ok, by rw [cf22]⟩⟩
  · cases hF
noncomputable def S6 : Spec := mkS [(22, false, F22), (23, false, F23), (24, false, F24), (25, false, F25), (26, false, F26), (38, false, F38), (29, false, F29), (31, false, F31), (32, false, F32), (35, false, F35), (36, false, F36), (37, false, F37)]
theorem S6_ok : SpecOK Try.prog S6 := mkS_cons ok22 (mkS_cons ok23 (mkS_cons ok24 (mkS_cons ok25 (mkS_cons ok26 (mkS_cons ok38 (mkS_cons ok29 (mkS_cons ok31 (mkS_cons ok32 (mkS_cons ok35 (mkS_cons ok36 (mkS_cons ok37 (mkS_nil _))))))))))))
--CF cf6 (a b : Int) :: fnK Try.prog S6 noL Try.f6 [w63 a, w63 b] []
theorem cf6 (a b : Int) : fnK Try.prog S6 noL Try.f6 [w63 a, w63 b] [] =
    (bif
         normB (digits a.natAbs).length (digits a.natAbs) && normB (digits b.natAbs).length (digits b.natAbs) &&
                 (digits a.natAbs).length.ble (digits a.natAbs).length &&
               (digits b.natAbs).length.ble (digits b.natAbs).length &&
             (digits a.natAbs).length.ble (OfNat.ofNat 400000) &&
           (digits b.natAbs).length.ble (OfNat.ofNat 400000) then
       bif
           normB
               (digits
                   (sgn (decide (a < 0)) (numW (digits a.natAbs).length (digits a.natAbs)) +
                       sgn (decide (b < 0)) (numW (digits b.natAbs).length (digits b.natAbs))).natAbs).length
               (digits
                 (sgn (decide (a < 0)) (numW (digits a.natAbs).length (digits a.natAbs)) +
                     sgn (decide (b < 0)) (numW (digits b.natAbs).length (digits b.natAbs))).natAbs) &&
             (digits
                     (sgn (decide (a < 0)) (numW (digits a.natAbs).length (digits a.natAbs)) +
                         sgn (decide (b < 0)) (numW (digits b.natAbs).length (digits b.natAbs))).natAbs).length.ble
               (digits
                   (sgn (decide (a < 0)) (numW (digits a.natAbs).length (digits a.natAbs)) +
                       sgn (decide (b < 0)) (numW (digits b.natAbs).length (digits b.natAbs))).natAbs).length then
         bif
             hold (a + b) ==
               hold
                 (sgn
                   (decide
                     (sgn (decide (a < 0)) (numW (digits a.natAbs).length (digits a.natAbs)) +
                         sgn (decide (b < 0)) (numW (digits b.natAbs).length (digits b.natAbs)) <
                       0))
                   (numW
                     (digits
                         (sgn (decide (a < 0)) (numW (digits a.natAbs).length (digits a.natAbs)) +
                             sgn (decide (b < 0)) (numW (digits b.natAbs).length (digits b.natAbs))).natAbs).length
                     (digits
                       (sgn (decide (a < 0)) (numW (digits a.natAbs).length (digits a.natAbs)) +
                           sgn (decide (b < 0)) (numW (digits b.natAbs).length (digits b.natAbs))).natAbs))) then
           bif
               normB (digits a.natAbs).length (digits a.natAbs) && normB (digits b.natAbs).length (digits b.natAbs) &&
                       (digits a.natAbs).length.ble (digits a.natAbs).length &&
                     (digits b.natAbs).length.ble (digits b.natAbs).length &&
                   (digits a.natAbs).length.ble (OfNat.ofNat 400000) &&
                 (digits b.natAbs).length.ble (OfNat.ofNat 400000) then
             bif
                 normB
                     (digits
                         (sgn (decide (a < 0)) (numW (digits a.natAbs).length (digits a.natAbs)) -
                             sgn (decide (b < 0)) (numW (digits b.natAbs).length (digits b.natAbs))).natAbs).length
                     (digits
                       (sgn (decide (a < 0)) (numW (digits a.natAbs).length (digits a.natAbs)) -
                           sgn (decide (b < 0)) (numW (digits b.natAbs).length (digits b.natAbs))).natAbs) &&
                   (digits
                           (sgn (decide (a < 0)) (numW (digits a.natAbs).length (digits a.natAbs)) -
                               sgn (decide (b < 0)) (numW (digits b.natAbs).length (digits b.natAbs))).natAbs).length.ble
                     (digits
                         (sgn (decide (a < 0)) (numW (digits a.natAbs).length (digits a.natAbs)) -
                             sgn (decide (b < 0)) (numW (digits b.natAbs).length (digits b.natAbs))).natAbs).length then
               bif
                   hold (a - b) ==
                     hold
                       (sgn
                         (decide
                           (sgn (decide (a < 0)) (numW (digits a.natAbs).length (digits a.natAbs)) -
                               sgn (decide (b < 0)) (numW (digits b.natAbs).length (digits b.natAbs)) <
                             0))
                         (numW
                           (digits
                               (sgn (decide (a < 0)) (numW (digits a.natAbs).length (digits a.natAbs)) -
                                   sgn (decide (b < 0)) (numW (digits b.natAbs).length (digits b.natAbs))).natAbs).length
                           (digits
                             (sgn (decide (a < 0)) (numW (digits a.natAbs).length (digits a.natAbs)) -
                                 sgn (decide (b < 0)) (numW (digits b.natAbs).length (digits b.natAbs))).natAbs))) then
                 bif
                     normB (digits a.natAbs).length (digits a.natAbs) && normB (digits b.natAbs).length (digits b.natAbs) &&
                             (digits a.natAbs).length.ble (digits a.natAbs).length &&
                           (digits b.natAbs).length.ble (digits b.natAbs).length &&
                         (digits a.natAbs).length.ble (OfNat.ofNat 400000) &&
                       (digits b.natAbs).length.ble (OfNat.ofNat 400000) then
                   bif
                       normB
                           (digits
                               (sgn (decide (a < 0)) (numW (digits a.natAbs).length (digits a.natAbs)) *
                                   sgn (decide (b < 0)) (numW (digits b.natAbs).length (digits b.natAbs))).natAbs).length
                           (digits
                             (sgn (decide (a < 0)) (numW (digits a.natAbs).length (digits a.natAbs)) *
                                 sgn (decide (b < 0)) (numW (digits b.natAbs).length (digits b.natAbs))).natAbs) &&
                         (digits
                                 (sgn (decide (a < 0)) (numW (digits a.natAbs).length (digits a.natAbs)) *
                                     sgn (decide (b < 0))
                                       (numW (digits b.natAbs).length (digits b.natAbs))).natAbs).length.ble
                           (digits
                               (sgn (decide (a < 0)) (numW (digits a.natAbs).length (digits a.natAbs)) *
                                   sgn (decide (b < 0))
                                     (numW (digits b.natAbs).length (digits b.natAbs))).natAbs).length then
                     bif
                         hold (a * b) ==
                           hold
                             (sgn
                               (decide
                                 (sgn (decide (a < 0)) (numW (digits a.natAbs).length (digits a.natAbs)) *
                                     sgn (decide (b < 0)) (numW (digits b.natAbs).length (digits b.natAbs)) <
                                   0))
                               (numW
                                 (digits
                                     (sgn (decide (a < 0)) (numW (digits a.natAbs).length (digits a.natAbs)) *
                                         sgn (decide (b < 0))
                                           (numW (digits b.natAbs).length (digits b.natAbs))).natAbs).length
                                 (digits
                                   (sgn (decide (a < 0)) (numW (digits a.natAbs).length (digits a.natAbs)) *
                                       sgn (decide (b < 0)) (numW (digits b.natAbs).length (digits b.natAbs))).natAbs))) then
                       bif
                           wordsB (digits a.natAbs).length (digits a.natAbs) &&
                             (digits a.natAbs).length.ble (digits a.natAbs).length then
                         bif
                             normB (digits (numW (digits a.natAbs).length (digits a.natAbs))).length (digits a.natAbs) &&
                               (digits (numW (digits a.natAbs).length (digits a.natAbs))).length.ble
                                 (digits a.natAbs).length then
                           bif
                               hold (-a) ==
                                 hold
                                   (sgn (!decide (a < 0) && decide (0 < numW (digits a.natAbs).length (digits a.natAbs)))
                                     (numW (digits (numW (digits a.natAbs).length (digits a.natAbs))).length
                                       (digits a.natAbs))) then
                             bif
                                 normB (digits a.natAbs).length (digits a.natAbs) &&
                                   (digits a.natAbs).length.ble (digits a.natAbs).length then
                               bif hold (sizeI a) == hold (sgn false (numW (digits a.natAbs).length (digits a.natAbs))) then
                                 some (Res.ret (Value.bool true) [])
                               else some (Res.ret (Value.bool false) [])
                             else none
                           else some (Res.ret (Value.bool false) [])
                         else none
                       else none
                     else some (Res.ret (Value.bool false) [])
                   else none
                 else none
               else some (Res.ret (Value.bool false) [])
             else none
           else none
         else some (Res.ret (Value.bool false) [])
       else none
     else none) := by kernel_rfl
--CFEND
end Go.Proofs.Ytfgehfnlkakioaa.VC
