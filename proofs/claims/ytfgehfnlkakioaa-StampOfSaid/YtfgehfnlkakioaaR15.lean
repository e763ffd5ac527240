/- SatOver, SatShifts: closed forms. -/
import Derived.Test.YtfgehfnlkakioaaR14
namespace Go.Proofs.Ytfgehfnlkakioaa.VC
open Go Go.Proofs

def S3 : Spec := mkS [(19, false, F19), (20, false, F20), (21, false, F21), (22, false, F22)]
theorem S3_ok : SpecOK Try.prog S3 := mkS_cons ok19 (mkS_cons ok20 (mkS_cons ok21 (mkS_cons ok22 (mkS_nil _))))
--CF cf3 (a b d : Int) :: fnK Try.prog S3 noL Try.f3 [w63 a, w63 b, w63 d] []
theorem cf3 (a b d : Int) : fnK Try.prog S3 noL Try.f3 [w63 a, w63 b, w63 d] [] =
    (bif downI a b d == bif false then upI a b d else downI a b d then
       bif upI a b d == bif true then upI a b d else downI a b d then some (Res.ret (Value.bool true) [])
       else some (Res.ret (Value.bool false) [])
     else some (Res.ret (Value.bool false) [])) := by kernel_rfl
--CFEND
noncomputable def S5 : Spec := mkS [(22, false, F22), (27, false, F27), (28, false, F28), (29, false, F29), (30, false, F30), (31, false, F31), (32, false, F32), (33, false, F33), (34, false, F34)]
theorem S5_ok : SpecOK Try.prog S5 := mkS_cons ok22 (mkS_cons ok27 (mkS_cons ok28 (mkS_cons ok29 (mkS_cons ok30 (mkS_cons ok31 (mkS_cons ok32 (mkS_cons ok33 (mkS_cons ok34 (mkS_nil _)))))))))
--CF cf5 (a n l m : Int) :: fnK Try.prog S5 noL Try.f5 [w63 a, w64 n, w63 l, w63 m] []
theorem cf5 (a n l m : Int) : fnK Try.prog S5 noL Try.f5 [w63 a, w64 n, w63 l, w63 m] [] =
    (bif decide (0 ≤ if 200 < n then 200 else n) && decide ((if 200 < n then 200 else n) ≤ 1000) then
       bif
           normB (digits a.natAbs).length (digits a.natAbs) &&
                         normB (digits (2 ^ (if 200 < n then 200 else n).toNat)).length
                           (digits (2 ^ (if 200 < n then 200 else n).toNat)) &&
                       (digits a.natAbs).length.ble (digits a.natAbs).length &&
                     (digits (2 ^ (if 200 < n then 200 else n).toNat)).length.ble
                       (digits (2 ^ (if 200 < n then 200 else n).toNat)).length &&
                   (digits a.natAbs).length.ble (OfNat.ofNat 399999) &&
                 (digits (2 ^ (if 200 < n then 200 else n).toNat)).length.ble (OfNat.ofNat 399999) &&
               Nat.blt 0
                 (numW (digits (2 ^ (if 200 < n then 200 else n).toNat)).length
                   (digits (2 ^ (if 200 < n then 200 else n).toNat))) &&
             true then
         bif
             normB (digits a.natAbs).length (digits a.natAbs) &&
                       normB (digits (2 ^ (if 200 < n then 200 else n).toNat)).length
                         (digits (2 ^ (if 200 < n then 200 else n).toNat)) &&
                     (digits a.natAbs).length.ble (digits a.natAbs).length &&
                   (digits (2 ^ (if 200 < n then 200 else n).toNat)).length.ble
                     (digits (2 ^ (if 200 < n then 200 else n).toNat)).length &&
                 (digits a.natAbs).length.ble (OfNat.ofNat 400000) &&
               (digits (2 ^ (if 200 < n then 200 else n).toNat)).length.ble (OfNat.ofNat 400000) then
           bif
               normB
                   (digits
                       (sgn (decide (a < 0)) (numW (digits a.natAbs).length (digits a.natAbs)) *
                           sgn false
                             (numW (digits (2 ^ (if 200 < n then 200 else n).toNat)).length
                               (digits (2 ^ (if 200 < n then 200 else n).toNat)))).natAbs).length
                   (digits
                     (sgn (decide (a < 0)) (numW (digits a.natAbs).length (digits a.natAbs)) *
                         sgn false
                           (numW (digits (2 ^ (if 200 < n then 200 else n).toNat)).length
                             (digits (2 ^ (if 200 < n then 200 else n).toNat)))).natAbs) &&
                 (digits
                         (sgn (decide (a < 0)) (numW (digits a.natAbs).length (digits a.natAbs)) *
                             sgn false
                               (numW (digits (2 ^ (if 200 < n then 200 else n).toNat)).length
                                 (digits (2 ^ (if 200 < n then 200 else n).toNat)))).natAbs).length.ble
                   (digits
                       (sgn (decide (a < 0)) (numW (digits a.natAbs).length (digits a.natAbs)) *
                           sgn false
                             (numW (digits (2 ^ (if 200 < n then 200 else n).toNat)).length
                               (digits (2 ^ (if 200 < n then 200 else n).toNat)))).natAbs).length then
             bif
                 hold (a * 2 ^ n.toNat) !=
                   hold
                     (sgn
                       (decide
                         (sgn (decide (a < 0)) (numW (digits a.natAbs).length (digits a.natAbs)) *
                             sgn false
                               (numW (digits (2 ^ (if 200 < n then 200 else n).toNat)).length
                                 (digits (2 ^ (if 200 < n then 200 else n).toNat))) <
                           0))
                       (numW
                         (digits
                             (sgn (decide (a < 0)) (numW (digits a.natAbs).length (digits a.natAbs)) *
                                 sgn false
                                   (numW (digits (2 ^ (if 200 < n then 200 else n).toNat)).length
                                     (digits (2 ^ (if 200 < n then 200 else n).toNat)))).natAbs).length
                         (digits
                           (sgn (decide (a < 0)) (numW (digits a.natAbs).length (digits a.natAbs)) *
                               sgn false
                                 (numW (digits (2 ^ (if 200 < n then 200 else n).toNat)).length
                                   (digits (2 ^ (if 200 < n then 200 else n).toNat)))).natAbs))) then
               some (Res.ret (Value.bool false) [])
             else
               bif
                   normB
                       (digits
                           (sgn (decide (a < 0)) (numW (digits a.natAbs).length (digits a.natAbs)) /
                               (↑(numW (digits (2 ^ (if 200 < n then 200 else n).toNat)).length
                                     (digits (2 ^ (if 200 < n then 200 else n).toNat))) :
                                 Int)).natAbs).length
                       (digits
                         (sgn (decide (a < 0)) (numW (digits a.natAbs).length (digits a.natAbs)) /
                             (↑(numW (digits (2 ^ (if 200 < n then 200 else n).toNat)).length
                                   (digits (2 ^ (if 200 < n then 200 else n).toNat))) :
                               Int)).natAbs) &&
                     (digits
                             (sgn (decide (a < 0)) (numW (digits a.natAbs).length (digits a.natAbs)) /
                                 (↑(numW (digits (2 ^ (if 200 < n then 200 else n).toNat)).length
                                       (digits (2 ^ (if 200 < n then 200 else n).toNat))) :
                                   Int)).natAbs).length.ble
                       (digits
                           (sgn (decide (a < 0)) (numW (digits a.natAbs).length (digits a.natAbs)) /
                               (↑(numW (digits (2 ^ (if 200 < n then 200 else n).toNat)).length
                                     (digits (2 ^ (if 200 < n then 200 else n).toNat))) :
                                 Int)).natAbs).length then
                 bif
                     a / 2 ^ (min n 63).toNat !=
                       hold
                         (sgn
                           (decide
                             (sgn (decide (a < 0)) (numW (digits a.natAbs).length (digits a.natAbs)) /
                                 (↑(numW (digits (2 ^ (if 200 < n then 200 else n).toNat)).length
                                       (digits (2 ^ (if 200 < n then 200 else n).toNat))) :
                                   Int) <
                               0))
                           (numW
                             (digits
                                 (sgn (decide (a < 0)) (numW (digits a.natAbs).length (digits a.natAbs)) /
                                     (↑(numW (digits (2 ^ (if 200 < n then 200 else n).toNat)).length
                                           (digits (2 ^ (if 200 < n then 200 else n).toNat))) :
                                       Int)).natAbs).length
                             (digits
                               (sgn (decide (a < 0)) (numW (digits a.natAbs).length (digits a.natAbs)) /
                                   (↑(numW (digits (2 ^ (if 200 < n then 200 else n).toNat)).length
                                         (digits (2 ^ (if 200 < n then 200 else n).toNat))) :
                                     Int)).natAbs))) then
                   some (Res.ret (Value.bool false) [])
                 else
                   bif decide (a < l) then
                     bif (if a < l then l else if a > m then m else a) == l then some (Res.ret (Value.bool true) [])
                     else some (Res.ret (Value.bool false) [])
                   else
                     bif decide (a > m) then
                       bif (if a < l then l else if a > m then m else a) == m then some (Res.ret (Value.bool true) [])
                       else some (Res.ret (Value.bool false) [])
                     else
                       bif (if a < l then l else if a > m then m else a) == a then some (Res.ret (Value.bool true) [])
                       else some (Res.ret (Value.bool false) [])
               else none
           else none
         else none
       else none
     else none) := by kernel_rfl
--CFEND
end Go.Proofs.Ytfgehfnlkakioaa.VC
