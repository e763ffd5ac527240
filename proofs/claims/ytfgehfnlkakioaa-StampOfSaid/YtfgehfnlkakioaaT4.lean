/- StampSplit: the law's closed form. -/
import Derived.Test.YtfgehfnlkakioaaT3
namespace Go.Proofs.Ytfgehfnlkakioaa.VC
open Go Go.Proofs

theorem nb30 : normB 1 (digits 1000000000) = true := normB_digits (v := 1000000000) (by decide)
theorem ok40 : EntryOK Try.prog 40 F39 := by
  refine EntryOK.of_fn S40_ok follows_ok Try.func40 (by kernel_rfl) (by kernel_rfl) ?_
  intro args h k out hF
  unfold F39 at hF
  split at hF
  · rename_i a p
    refine ⟨_, _, hF, fun real => ⟨L40, loops40, ?_⟩⟩
    have ha := u64r real 0 rfl
    have hp := i64r real 1 rfl
    have e1 : IntKind.i64.wrap (a.tmod 4294967296) = a % 4294967296 := by rw [Int.tmod_eq_emod_of_nonneg ha.1, swrap (by omega) (by omega)]
    have e2 : IntKind.i64.wrap (IntKind.u64.wrap (a.tdiv 4294967296)) = a / 4294967296 := by rw [Int.tdiv_eq_ediv_of_nonneg ha.1, wu64e, wi64e]; omega
    have e3 : IntKind.i64.wrap (p / 4294967296 - 1) = p / 4294967296 - 1 := swrap (by omega) (by omega)
    rw [cf40, e1, e2, e3]
    have hf : 0 ≤ a % 4294967296 ∧ a % 4294967296 < 4294967296 := by omega
    have hlow : 0 ≤ a / 4294967296 ∧ a / 4294967296 < 4294967296 := by omega
    generalize a % 4294967296 = f at *
    generalize a / 4294967296 = low at *
    have hn : -9223372036854775808 ≤ nearZ p low ∧ nearZ p low ≤ 9223372036854775807 := by
      unfold nearZ
      simp only
      repeat' split
      all_goals omega
    rw [chk_t ⟨hp, hlow, rfl, rfl⟩]
    unfold nsZ upI
    simp (disch := omega) only [numW_digits, sgn_self, nb4, lb4, lb4', nb232, nb30, ble_self, Bool.and_self, condT, hold_id, if_neg]
    generalize -(-(f * 1000000000) / 4294967296) = x
    by_cases h : 999999999 < x
    · rw [if_pos h, dec_t h, condT]
    · rw [if_neg h, dec_f h, condF]
  · cases hF

/-! the program's -/
def F42 : FSpec := fun args h k => match args, h with
  | [.int .i64 s, .int .i64 n], [] => bif decide (0 ≤ n) && decide (n < 1000000000) then k (.tuple ⟨[w64 (s % 4294967296 * 4294967296 + n * 4294967296 / 1000000000), w63 0]⟩) [] else k (.tuple ⟨[w64 0, w63 2]⟩) []
  | _, _ => none
--CF cf42 (s n : Int) :: fnK Try.prog (mkS []) noL Try.f42 [w63 s, w63 n] []
theorem cf42 (s n : Int) : fnK Try.prog (mkS []) noL Try.f42 [w63 s, w63 n] [] =
    (bif decide (n < 0) then some (Res.ret (Value.tuple (Array.mk [Value.int IntKind.u64 0, Value.int IntKind.i64 2])) [])
     else
       bif decide (n ≥ 1000000000) then
         some (Res.ret (Value.tuple (Array.mk [Value.int IntKind.u64 0, Value.int IntKind.i64 2])) [])
       else
         some
           (Res.ret
             (Value.tuple
               (Array.mk
                 [Value.int IntKind.u64
                     (bits BinOp.or IntKind.u64 (IntKind.u64.wrap (IntKind.u64.wrap (IntKind.u32.wrap s) * 4294967296))
                       (IntKind.u64.wrap ((IntKind.u64.wrap (IntKind.u64.wrap n * 4294967296)).tdiv 1000000000))),
                   Value.int IntKind.i64 0]))
             [])) := by kernel_rfl
--CFEND
def shortZ (n : Int) : Int := if n ≤ 0 then 0 else if -(-(n * 65536) / 1000000000) > 4294967295 then 4294967295 else -(-(n * 65536) / 1000000000)
def F43 : FSpec := fun args h k => match args, h with
  | [.int .i64 n], [] => k (.int .u32 (shortZ n)) []
  | _, _ => none
def S43 : Spec := mkS [(19, false, F19), (21, false, F21)]
theorem S43_ok : SpecOK Try.prog S43 := mkS_cons ok19 (mkS_cons ok21 (mkS_nil _))
--CF cf43 (n : Int) :: fnK Try.prog S43 noL Try.f43 [w63 n] []
theorem cf43 (n : Int) : fnK Try.prog S43 noL Try.f43 [w63 n] [] =
    (bif decide (n ≤ 0) then some (Res.ret (Value.int IntKind.u32 0) [])
     else
       some
         (Res.ret
           (Value.int IntKind.u32
             (IntKind.u32.wrap (if 4294967295 < upI n 65536 1000000000 then 4294967295 else upI n 65536 1000000000)))
           [])) := by kernel_rfl
--CFEND
--CF cf44 (n : Int) :: fnK Try.prog S43 noL Try.f44 [.int .u32 n] []
theorem cf44 (n : Int) : fnK Try.prog S43 noL Try.f44 [.int .u32 n] [] =
    (some (Res.ret (Value.int IntKind.i64 (downI (IntKind.i64.wrap n) 1000000000 65536)) [])) := by kernel_rfl
--CFEND
def F44 : FSpec := fun args h k => match args, h with
  | [.int .u32 n], [] => k (w63 (n * 1000000000 / 65536)) []
  | _, _ => none
--CF cf46 (n : Int) :: fnK Try.prog S43 noL Try.f46 [w63 n] []
theorem cf46 (n : Int) : fnK Try.prog S43 noL Try.f46 [w63 n] [] =
    (some (Res.ret (Value.int IntKind.i64 (n.fdiv 4294967296)) [])) := by kernel_rfl
--CFEND
def F46 : FSpec := fun args h k => match args, h with
  | [.int .i64 n], [] => k (w63 (n / 4294967296)) []
  | _, _ => none
/-! the document's -/
noncomputable def S45 : Spec := mkS [(27, false, F27), (28, false, F28), (29, false, F29), (32, false, F32), (76, false, F76), (86, false, F86), (98, false, F31), (99, false, F99)]
theorem S45_ok : SpecOK Try.prog S45 := mkS_cons ok27 (mkS_cons ok28 (mkS_cons ok29 (mkS_cons ok32 (mkS_cons ok76 (mkS_cons ok86 (mkS_cons ok98 (mkS_cons ok99 (mkS_nil _))))))))
--CF cf45 (s n : Int) :: fnK Try.prog S45 noL Try.f45 [w63 s, w63 n] []
theorem cf45 (s n : Int) : fnK Try.prog S45 noL Try.f45 [w63 s, w63 n] [] =
    (bif decide (n < 0) then some (Res.ret (Value.tuple (Array.mk [Value.int IntKind.u64 0, Value.int IntKind.i64 2])) [])
     else
       bif decide (n > 999999999) then
         some (Res.ret (Value.tuple (Array.mk [Value.int IntKind.u64 0, Value.int IntKind.i64 2])) [])
       else
         bif
             normB (digits n.natAbs).length (digits n.natAbs) && normB 2 (digits 4294967296) &&
                     (digits n.natAbs).length.ble (digits n.natAbs).length &&
                   true &&
                 (digits n.natAbs).length.ble (OfNat.ofNat 400000) &&
               true then
           bif
               normB
                               (digits
                                   (sgn (decide (n < 0)) (numW (digits n.natAbs).length (digits n.natAbs)) *
                                       4294967296).natAbs).length
                               (digits
                                 (sgn (decide (n < 0)) (numW (digits n.natAbs).length (digits n.natAbs)) *
                                     4294967296).natAbs) &&
                             normB 1 (digits 1000000000) &&
                           (digits
                                   (sgn (decide (n < 0)) (numW (digits n.natAbs).length (digits n.natAbs)) *
                                       4294967296).natAbs).length.ble
                             (digits
                                 (sgn (decide (n < 0)) (numW (digits n.natAbs).length (digits n.natAbs)) *
                                     4294967296).natAbs).length &&
                         true &&
                       (digits
                               (sgn (decide (n < 0)) (numW (digits n.natAbs).length (digits n.natAbs)) *
                                   4294967296).natAbs).length.ble
                         (OfNat.ofNat 399999) &&
                     true &&
                   true &&
                 true then
             bif
                 normB
                     (digits
                         (sgn
                               (decide
                                 (sgn (decide (n < 0)) (numW (digits n.natAbs).length (digits n.natAbs)) * 4294967296 < 0))
                               (numW
                                 (digits
                                     (sgn (decide (n < 0)) (numW (digits n.natAbs).length (digits n.natAbs)) *
                                         4294967296).natAbs).length
                                 (digits
                                   (sgn (decide (n < 0)) (numW (digits n.natAbs).length (digits n.natAbs)) *
                                       4294967296).natAbs)) /
                             1000000000).natAbs).length
                     (digits
                       (sgn
                             (decide
                               (sgn (decide (n < 0)) (numW (digits n.natAbs).length (digits n.natAbs)) * 4294967296 < 0))
                             (numW
                               (digits
                                   (sgn (decide (n < 0)) (numW (digits n.natAbs).length (digits n.natAbs)) *
                                       4294967296).natAbs).length
                               (digits
                                 (sgn (decide (n < 0)) (numW (digits n.natAbs).length (digits n.natAbs)) *
                                     4294967296).natAbs)) /
                           1000000000).natAbs) &&
                   (digits
                           (sgn
                                 (decide
                                   (sgn (decide (n < 0)) (numW (digits n.natAbs).length (digits n.natAbs)) * 4294967296 < 0))
                                 (numW
                                   (digits
                                       (sgn (decide (n < 0)) (numW (digits n.natAbs).length (digits n.natAbs)) *
                                           4294967296).natAbs).length
                                   (digits
                                     (sgn (decide (n < 0)) (numW (digits n.natAbs).length (digits n.natAbs)) *
                                         4294967296).natAbs)) /
                               1000000000).natAbs).length.ble
                     (digits
                         (sgn
                               (decide
                                 (sgn (decide (n < 0)) (numW (digits n.natAbs).length (digits n.natAbs)) * 4294967296 < 0))
                               (numW
                                 (digits
                                     (sgn (decide (n < 0)) (numW (digits n.natAbs).length (digits n.natAbs)) *
                                         4294967296).natAbs).length
                                 (digits
                                   (sgn (decide (n < 0)) (numW (digits n.natAbs).length (digits n.natAbs)) *
                                       4294967296).natAbs)) /
                             1000000000).natAbs).length then
               some
                 (Res.ret
                   (Value.tuple
                     (Array.mk
                       [Value.int IntKind.u64
                           (IntKind.u64.wrap
                             (IntKind.u64.wrap (IntKind.u64.wrap (s % 4294967296) * 4294967296) +
                               IntKind.u64.wrap
                                 (hold
                                   (sgn
                                     (decide
                                       (sgn
                                             (decide
                                               (sgn (decide (n < 0)) (numW (digits n.natAbs).length (digits n.natAbs)) *
                                                   4294967296 <
                                                 0))
                                             (numW
                                               (digits
                                                   (sgn (decide (n < 0)) (numW (digits n.natAbs).length (digits n.natAbs)) *
                                                       4294967296).natAbs).length
                                               (digits
                                                 (sgn (decide (n < 0)) (numW (digits n.natAbs).length (digits n.natAbs)) *
                                                     4294967296).natAbs)) /
                                           1000000000 <
                                         0))
                                     (numW
                                       (digits
                                           (sgn
                                                 (decide
                                                   (sgn (decide (n < 0)) (numW (digits n.natAbs).length (digits n.natAbs)) *
                                                       4294967296 <
                                                     0))
                                                 (numW
                                                   (digits
                                                       (sgn (decide (n < 0))
                                                             (numW (digits n.natAbs).length (digits n.natAbs)) *
                                                           4294967296).natAbs).length
                                                   (digits
                                                     (sgn (decide (n < 0))
                                                           (numW (digits n.natAbs).length (digits n.natAbs)) *
                                                         4294967296).natAbs)) /
                                               1000000000).natAbs).length
                                       (digits
                                         (sgn
                                               (decide
                                                 (sgn (decide (n < 0)) (numW (digits n.natAbs).length (digits n.natAbs)) *
                                                     4294967296 <
                                                   0))
                                               (numW
                                                 (digits
                                                     (sgn (decide (n < 0))
                                                           (numW (digits n.natAbs).length (digits n.natAbs)) *
                                                         4294967296).natAbs).length
                                                 (digits
                                                   (sgn (decide (n < 0)) (numW (digits n.natAbs).length (digits n.natAbs)) *
                                                       4294967296).natAbs)) /
                                             1000000000).natAbs)))))),
                         Value.int IntKind.i64 0]))
                   [])
             else none
           else none
         else none) := by kernel_rfl
--CFEND
--CF cf47 (n : Int) :: fnK Try.prog S45 noL Try.f47 [w63 n] []
theorem cf47 (n : Int) : fnK Try.prog S45 noL Try.f47 [w63 n] [] =
    (some (Res.ret (Value.int IntKind.i64 (n / 4294967296)) [])) := by kernel_rfl
--CFEND
--CF cf48 (n : Int) :: fnK Try.prog S45 noL Try.f48 [w63 n] []
theorem cf48 (n : Int) : fnK Try.prog S45 noL Try.f48 [w63 n] [] =
    (bif decide (n ≤ 0) then some (Res.ret (Value.int IntKind.u32 0) [])
     else
       bif
           normB (digits n.natAbs).length (digits n.natAbs) && normB 1 (digits 65536) &&
                   (digits n.natAbs).length.ble (digits n.natAbs).length &&
                 true &&
               (digits n.natAbs).length.ble (OfNat.ofNat 400000) &&
             true then
         bif
             normB (digits (sgn (decide (n < 0)) (numW (digits n.natAbs).length (digits n.natAbs)) * 65536).natAbs).length
                             (digits
                               (sgn (decide (n < 0)) (numW (digits n.natAbs).length (digits n.natAbs)) * 65536).natAbs) &&
                           normB 1 (digits 1000000000) &&
                         (digits
                                 (sgn (decide (n < 0)) (numW (digits n.natAbs).length (digits n.natAbs)) *
                                     65536).natAbs).length.ble
                           (digits
                               (sgn (decide (n < 0)) (numW (digits n.natAbs).length (digits n.natAbs)) *
                                   65536).natAbs).length &&
                       true &&
                     (digits
                             (sgn (decide (n < 0)) (numW (digits n.natAbs).length (digits n.natAbs)) *
                                 65536).natAbs).length.ble
                       (OfNat.ofNat 399999) &&
                   true &&
                 true &&
               true then
           bif
               normB
                           (digits
                               (-(-sgn
                                         (decide
                                           (sgn (decide (n < 0)) (numW (digits n.natAbs).length (digits n.natAbs)) * 65536 <
                                             0))
                                         (numW
                                           (digits
                                               (sgn (decide (n < 0)) (numW (digits n.natAbs).length (digits n.natAbs)) *
                                                   65536).natAbs).length
                                           (digits
                                             (sgn (decide (n < 0)) (numW (digits n.natAbs).length (digits n.natAbs)) *
                                                 65536).natAbs)) /
                                     1000000000)).natAbs).length
                           (digits
                             (-(-sgn
                                       (decide
                                         (sgn (decide (n < 0)) (numW (digits n.natAbs).length (digits n.natAbs)) * 65536 <
                                           0))
                                       (numW
                                         (digits
                                             (sgn (decide (n < 0)) (numW (digits n.natAbs).length (digits n.natAbs)) *
                                                 65536).natAbs).length
                                         (digits
                                           (sgn (decide (n < 0)) (numW (digits n.natAbs).length (digits n.natAbs)) *
                                               65536).natAbs)) /
                                   1000000000)).natAbs) &&
                         normB 1 (digits 4294967295) &&
                       (digits
                               (-(-sgn
                                         (decide
                                           (sgn (decide (n < 0)) (numW (digits n.natAbs).length (digits n.natAbs)) * 65536 <
                                             0))
                                         (numW
                                           (digits
                                               (sgn (decide (n < 0)) (numW (digits n.natAbs).length (digits n.natAbs)) *
                                                   65536).natAbs).length
                                           (digits
                                             (sgn (decide (n < 0)) (numW (digits n.natAbs).length (digits n.natAbs)) *
                                                 65536).natAbs)) /
                                     1000000000)).natAbs).length.ble
                         (digits
                             (-(-sgn
                                       (decide
                                         (sgn (decide (n < 0)) (numW (digits n.natAbs).length (digits n.natAbs)) * 65536 <
                                           0))
                                       (numW
                                         (digits
                                             (sgn (decide (n < 0)) (numW (digits n.natAbs).length (digits n.natAbs)) *
                                                 65536).natAbs).length
                                         (digits
                                           (sgn (decide (n < 0)) (numW (digits n.natAbs).length (digits n.natAbs)) *
                                               65536).natAbs)) /
                                   1000000000)).natAbs).length &&
                     true &&
                   chk
                     (decide
                           (-(-sgn
                                     (decide
                                       (sgn (decide (n < 0)) (numW (digits n.natAbs).length (digits n.natAbs)) *
                                           sgn (decide (65536 < 0))
                                             (numW (digits (Int.natAbs 65536)).length (digits (Int.natAbs 65536))) <
                                         0))
                                     (numW
                                       (digits
                                           (sgn (decide (n < 0)) (numW (digits n.natAbs).length (digits n.natAbs)) *
                                               sgn (decide (65536 < 0))
                                                 (numW (digits (Int.natAbs 65536)).length
                                                   (digits (Int.natAbs 65536)))).natAbs).length
                                       (digits
                                         (sgn (decide (n < 0)) (numW (digits n.natAbs).length (digits n.natAbs)) *
                                             sgn (decide (65536 < 0))
                                               (numW (digits (Int.natAbs 65536)).length
                                                 (digits (Int.natAbs 65536)))).natAbs)) /
                                 (↑(numW (digits (Int.natAbs 1000000000)).length (digits (Int.natAbs 1000000000))) : Int)) <
                             0) =
                         true →
                       0 <
                         numW
                           (digits
                               (-(-sgn
                                         (decide
                                           (sgn (decide (n < 0)) (numW (digits n.natAbs).length (digits n.natAbs)) *
                                               sgn (decide (65536 < 0))
                                                 (numW (digits (Int.natAbs 65536)).length (digits (Int.natAbs 65536))) <
                                             0))
                                         (numW
                                           (digits
                                               (sgn (decide (n < 0)) (numW (digits n.natAbs).length (digits n.natAbs)) *
                                                   sgn (decide (65536 < 0))
                                                     (numW (digits (Int.natAbs 65536)).length
                                                       (digits (Int.natAbs 65536)))).natAbs).length
                                           (digits
                                             (sgn (decide (n < 0)) (numW (digits n.natAbs).length (digits n.natAbs)) *
                                                 sgn (decide (65536 < 0))
                                                   (numW (digits (Int.natAbs 65536)).length
                                                     (digits (Int.natAbs 65536)))).natAbs)) /
                                     (↑(numW (digits (Int.natAbs 1000000000)).length (digits (Int.natAbs 1000000000))) :
                                       Int))).natAbs).length
                           (digits
                             (-(-sgn
                                       (decide
                                         (sgn (decide (n < 0)) (numW (digits n.natAbs).length (digits n.natAbs)) *
                                             sgn (decide (65536 < 0))
                                               (numW (digits (Int.natAbs 65536)).length (digits (Int.natAbs 65536))) <
                                           0))
                                       (numW
                                         (digits
                                             (sgn (decide (n < 0)) (numW (digits n.natAbs).length (digits n.natAbs)) *
                                                 sgn (decide (65536 < 0))
                                                   (numW (digits (Int.natAbs 65536)).length
                                                     (digits (Int.natAbs 65536)))).natAbs).length
                                         (digits
                                           (sgn (decide (n < 0)) (numW (digits n.natAbs).length (digits n.natAbs)) *
                                               sgn (decide (65536 < 0))
                                                 (numW (digits (Int.natAbs 65536)).length
                                                   (digits (Int.natAbs 65536)))).natAbs)) /
                                   (↑(numW (digits (Int.natAbs 1000000000)).length (digits (Int.natAbs 1000000000))) :
                                     Int))).natAbs)) &&
                 chk
                   (decide (4294967295 < 0) = true →
                     0 < numW (digits (Int.natAbs 4294967295)).length (digits (Int.natAbs 4294967295))) then
             bif
                 decide
                   (cmpZ
                       (sgn
                         (decide
                           (-(-sgn
                                     (decide
                                       (sgn (decide (n < 0)) (numW (digits n.natAbs).length (digits n.natAbs)) * 65536 < 0))
                                     (numW
                                       (digits
                                           (sgn (decide (n < 0)) (numW (digits n.natAbs).length (digits n.natAbs)) *
                                               65536).natAbs).length
                                       (digits
                                         (sgn (decide (n < 0)) (numW (digits n.natAbs).length (digits n.natAbs)) *
                                             65536).natAbs)) /
                                 1000000000) <
                             0))
                         (numW
                           (digits
                               (-(-sgn
                                         (decide
                                           (sgn (decide (n < 0)) (numW (digits n.natAbs).length (digits n.natAbs)) * 65536 <
                                             0))
                                         (numW
                                           (digits
                                               (sgn (decide (n < 0)) (numW (digits n.natAbs).length (digits n.natAbs)) *
                                                   65536).natAbs).length
                                           (digits
                                             (sgn (decide (n < 0)) (numW (digits n.natAbs).length (digits n.natAbs)) *
                                                 65536).natAbs)) /
                                     1000000000)).natAbs).length
                           (digits
                             (-(-sgn
                                       (decide
                                         (sgn (decide (n < 0)) (numW (digits n.natAbs).length (digits n.natAbs)) * 65536 <
                                           0))
                                       (numW
                                         (digits
                                             (sgn (decide (n < 0)) (numW (digits n.natAbs).length (digits n.natAbs)) *
                                                 65536).natAbs).length
                                         (digits
                                           (sgn (decide (n < 0)) (numW (digits n.natAbs).length (digits n.natAbs)) *
                                               65536).natAbs)) /
                                   1000000000)).natAbs)))
                       4294967295 >
                     0) then
               some (Res.ret (Value.int IntKind.u32 4294967295) [])
             else
               bif
                   normB
                       (digits
                           (-(-sgn
                                     (decide
                                       (sgn (decide (n < 0)) (numW (digits n.natAbs).length (digits n.natAbs)) * 65536 < 0))
                                     (numW
                                       (digits
                                           (sgn (decide (n < 0)) (numW (digits n.natAbs).length (digits n.natAbs)) *
                                               65536).natAbs).length
                                       (digits
                                         (sgn (decide (n < 0)) (numW (digits n.natAbs).length (digits n.natAbs)) *
                                             65536).natAbs)) /
                                 1000000000)).natAbs).length
                       (digits
                         (-(-sgn
                                   (decide
                                     (sgn (decide (n < 0)) (numW (digits n.natAbs).length (digits n.natAbs)) * 65536 < 0))
                                   (numW
                                     (digits
                                         (sgn (decide (n < 0)) (numW (digits n.natAbs).length (digits n.natAbs)) *
                                             65536).natAbs).length
                                     (digits
                                       (sgn (decide (n < 0)) (numW (digits n.natAbs).length (digits n.natAbs)) *
                                           65536).natAbs)) /
                               1000000000)).natAbs) &&
                     (digits
                             (-(-sgn
                                       (decide
                                         (sgn (decide (n < 0)) (numW (digits n.natAbs).length (digits n.natAbs)) * 65536 <
                                           0))
                                       (numW
                                         (digits
                                             (sgn (decide (n < 0)) (numW (digits n.natAbs).length (digits n.natAbs)) *
                                                 65536).natAbs).length
                                         (digits
                                           (sgn (decide (n < 0)) (numW (digits n.natAbs).length (digits n.natAbs)) *
                                               65536).natAbs)) /
                                   1000000000)).natAbs).length.ble
                       (digits
                           (-(-sgn
                                     (decide
                                       (sgn (decide (n < 0)) (numW (digits n.natAbs).length (digits n.natAbs)) * 65536 < 0))
                                     (numW
                                       (digits
                                           (sgn (decide (n < 0)) (numW (digits n.natAbs).length (digits n.natAbs)) *
                                               65536).natAbs).length
                                       (digits
                                         (sgn (decide (n < 0)) (numW (digits n.natAbs).length (digits n.natAbs)) *
                                             65536).natAbs)) /
                                 1000000000)).natAbs).length then
                 some
                   (Res.ret
                     (Value.int IntKind.u32
                       (IntKind.u32.wrap
                         (hold
                           (sgn
                             (decide
                               (-(-sgn
                                         (decide
                                           (sgn (decide (n < 0)) (numW (digits n.natAbs).length (digits n.natAbs)) * 65536 <
                                             0))
                                         (numW
                                           (digits
                                               (sgn (decide (n < 0)) (numW (digits n.natAbs).length (digits n.natAbs)) *
                                                   65536).natAbs).length
                                           (digits
                                             (sgn (decide (n < 0)) (numW (digits n.natAbs).length (digits n.natAbs)) *
                                                 65536).natAbs)) /
                                     1000000000) <
                                 0))
                             (numW
                               (digits
                                   (-(-sgn
                                             (decide
                                               (sgn (decide (n < 0)) (numW (digits n.natAbs).length (digits n.natAbs)) *
                                                   65536 <
                                                 0))
                                             (numW
                                               (digits
                                                   (sgn (decide (n < 0)) (numW (digits n.natAbs).length (digits n.natAbs)) *
                                                       65536).natAbs).length
                                               (digits
                                                 (sgn (decide (n < 0)) (numW (digits n.natAbs).length (digits n.natAbs)) *
                                                     65536).natAbs)) /
                                         1000000000)).natAbs).length
                               (digits
                                 (-(-sgn
                                           (decide
                                             (sgn (decide (n < 0)) (numW (digits n.natAbs).length (digits n.natAbs)) *
                                                 65536 <
                                               0))
                                           (numW
                                             (digits
                                                 (sgn (decide (n < 0)) (numW (digits n.natAbs).length (digits n.natAbs)) *
                                                     65536).natAbs).length
                                             (digits
                                               (sgn (decide (n < 0)) (numW (digits n.natAbs).length (digits n.natAbs)) *
                                                   65536).natAbs)) /
                                       1000000000)).natAbs))))))
                     [])
               else none
           else none
         else none
       else none) := by kernel_rfl
--CFEND
--CF cf49 (n : Int) :: fnK Try.prog S45 noL Try.f49 [.int .u32 n] []
theorem cf49 (n : Int) : fnK Try.prog S45 noL Try.f49 [.int .u32 n] [] =
    (bif
         normB (digits (IntKind.i64.wrap n).natAbs).length (digits (IntKind.i64.wrap n).natAbs) &&
                   normB 1 (digits 1000000000) &&
                 (digits (IntKind.i64.wrap n).natAbs).length.ble (digits (IntKind.i64.wrap n).natAbs).length &&
               true &&
             (digits (IntKind.i64.wrap n).natAbs).length.ble (OfNat.ofNat 400000) &&
           true then
       bif
           normB
                           (digits
                               (sgn (decide (IntKind.i64.wrap n < 0))
                                     (numW (digits (IntKind.i64.wrap n).natAbs).length
                                       (digits (IntKind.i64.wrap n).natAbs)) *
                                   1000000000).natAbs).length
                           (digits
                             (sgn (decide (IntKind.i64.wrap n < 0))
                                   (numW (digits (IntKind.i64.wrap n).natAbs).length (digits (IntKind.i64.wrap n).natAbs)) *
                                 1000000000).natAbs) &&
                         normB 1 (digits 65536) &&
                       (digits
                               (sgn (decide (IntKind.i64.wrap n < 0))
                                     (numW (digits (IntKind.i64.wrap n).natAbs).length
                                       (digits (IntKind.i64.wrap n).natAbs)) *
                                   1000000000).natAbs).length.ble
                         (digits
                             (sgn (decide (IntKind.i64.wrap n < 0))
                                   (numW (digits (IntKind.i64.wrap n).natAbs).length (digits (IntKind.i64.wrap n).natAbs)) *
                                 1000000000).natAbs).length &&
                     true &&
                   (digits
                           (sgn (decide (IntKind.i64.wrap n < 0))
                                 (numW (digits (IntKind.i64.wrap n).natAbs).length (digits (IntKind.i64.wrap n).natAbs)) *
                               1000000000).natAbs).length.ble
                     (OfNat.ofNat 399999) &&
                 true &&
               true &&
             true then
         bif
             normB
                 (digits
                     (sgn
                           (decide
                             (sgn (decide (IntKind.i64.wrap n < 0))
                                   (numW (digits (IntKind.i64.wrap n).natAbs).length (digits (IntKind.i64.wrap n).natAbs)) *
                                 1000000000 <
                               0))
                           (numW
                             (digits
                                 (sgn (decide (IntKind.i64.wrap n < 0))
                                       (numW (digits (IntKind.i64.wrap n).natAbs).length
                                         (digits (IntKind.i64.wrap n).natAbs)) *
                                     1000000000).natAbs).length
                             (digits
                               (sgn (decide (IntKind.i64.wrap n < 0))
                                     (numW (digits (IntKind.i64.wrap n).natAbs).length
                                       (digits (IntKind.i64.wrap n).natAbs)) *
                                   1000000000).natAbs)) /
                         65536).natAbs).length
                 (digits
                   (sgn
                         (decide
                           (sgn (decide (IntKind.i64.wrap n < 0))
                                 (numW (digits (IntKind.i64.wrap n).natAbs).length (digits (IntKind.i64.wrap n).natAbs)) *
                               1000000000 <
                             0))
                         (numW
                           (digits
                               (sgn (decide (IntKind.i64.wrap n < 0))
                                     (numW (digits (IntKind.i64.wrap n).natAbs).length
                                       (digits (IntKind.i64.wrap n).natAbs)) *
                                   1000000000).natAbs).length
                           (digits
                             (sgn (decide (IntKind.i64.wrap n < 0))
                                   (numW (digits (IntKind.i64.wrap n).natAbs).length (digits (IntKind.i64.wrap n).natAbs)) *
                                 1000000000).natAbs)) /
                       65536).natAbs) &&
               (digits
                       (sgn
                             (decide
                               (sgn (decide (IntKind.i64.wrap n < 0))
                                     (numW (digits (IntKind.i64.wrap n).natAbs).length
                                       (digits (IntKind.i64.wrap n).natAbs)) *
                                   1000000000 <
                                 0))
                             (numW
                               (digits
                                   (sgn (decide (IntKind.i64.wrap n < 0))
                                         (numW (digits (IntKind.i64.wrap n).natAbs).length
                                           (digits (IntKind.i64.wrap n).natAbs)) *
                                       1000000000).natAbs).length
                               (digits
                                 (sgn (decide (IntKind.i64.wrap n < 0))
                                       (numW (digits (IntKind.i64.wrap n).natAbs).length
                                         (digits (IntKind.i64.wrap n).natAbs)) *
                                     1000000000).natAbs)) /
                           65536).natAbs).length.ble
                 (digits
                     (sgn
                           (decide
                             (sgn (decide (IntKind.i64.wrap n < 0))
                                   (numW (digits (IntKind.i64.wrap n).natAbs).length (digits (IntKind.i64.wrap n).natAbs)) *
                                 1000000000 <
                               0))
                           (numW
                             (digits
                                 (sgn (decide (IntKind.i64.wrap n < 0))
                                       (numW (digits (IntKind.i64.wrap n).natAbs).length
                                         (digits (IntKind.i64.wrap n).natAbs)) *
                                     1000000000).natAbs).length
                             (digits
                               (sgn (decide (IntKind.i64.wrap n < 0))
                                     (numW (digits (IntKind.i64.wrap n).natAbs).length
                                       (digits (IntKind.i64.wrap n).natAbs)) *
                                   1000000000).natAbs)) /
                         65536).natAbs).length then
           some
             (Res.ret
               (Value.int IntKind.i64
                 (hold
                   (sgn
                     (decide
                       (sgn
                             (decide
                               (sgn (decide (IntKind.i64.wrap n < 0))
                                     (numW (digits (IntKind.i64.wrap n).natAbs).length
                                       (digits (IntKind.i64.wrap n).natAbs)) *
                                   1000000000 <
                                 0))
                             (numW
                               (digits
                                   (sgn (decide (IntKind.i64.wrap n < 0))
                                         (numW (digits (IntKind.i64.wrap n).natAbs).length
                                           (digits (IntKind.i64.wrap n).natAbs)) *
                                       1000000000).natAbs).length
                               (digits
                                 (sgn (decide (IntKind.i64.wrap n < 0))
                                       (numW (digits (IntKind.i64.wrap n).natAbs).length
                                         (digits (IntKind.i64.wrap n).natAbs)) *
                                     1000000000).natAbs)) /
                           65536 <
                         0))
                     (numW
                       (digits
                           (sgn
                                 (decide
                                   (sgn (decide (IntKind.i64.wrap n < 0))
                                         (numW (digits (IntKind.i64.wrap n).natAbs).length
                                           (digits (IntKind.i64.wrap n).natAbs)) *
                                       1000000000 <
                                     0))
                                 (numW
                                   (digits
                                       (sgn (decide (IntKind.i64.wrap n < 0))
                                             (numW (digits (IntKind.i64.wrap n).natAbs).length
                                               (digits (IntKind.i64.wrap n).natAbs)) *
                                           1000000000).natAbs).length
                                   (digits
                                     (sgn (decide (IntKind.i64.wrap n < 0))
                                           (numW (digits (IntKind.i64.wrap n).natAbs).length
                                             (digits (IntKind.i64.wrap n).natAbs)) *
                                         1000000000).natAbs)) /
                               65536).natAbs).length
                       (digits
                         (sgn
                               (decide
                                 (sgn (decide (IntKind.i64.wrap n < 0))
                                       (numW (digits (IntKind.i64.wrap n).natAbs).length
                                         (digits (IntKind.i64.wrap n).natAbs)) *
                                     1000000000 <
                                   0))
                               (numW
                                 (digits
                                     (sgn (decide (IntKind.i64.wrap n < 0))
                                           (numW (digits (IntKind.i64.wrap n).natAbs).length
                                             (digits (IntKind.i64.wrap n).natAbs)) *
                                         1000000000).natAbs).length
                                 (digits
                                   (sgn (decide (IntKind.i64.wrap n < 0))
                                         (numW (digits (IntKind.i64.wrap n).natAbs).length
                                           (digits (IntKind.i64.wrap n).natAbs)) *
                                       1000000000).natAbs)) /
                             65536).natAbs)))))
               [])
         else none
       else none
     else none) := by kernel_rfl
--CFEND
noncomputable def S7 : Spec := mkS [(39, false, F39), (40, false, F39), (41, false, F22)]
--CF cf7 (a p : Int) :: fnK Try.prog S7 noL Try.f7 [w64 a, w63 p] []
theorem cf7 (a p : Int) : fnK Try.prog S7 noL Try.f7 [w64 a, w63 p] [] =
    (bif nearZ p (a / 4294967296) == nearZ p (a / 4294967296) then
       bif nsZ (a % 4294967296) == nsZ (a % 4294967296) then some (Res.ret (Value.bool true) [])
       else some (Res.ret (Value.bool false) [])
     else some (Res.ret (Value.bool false) [])) := by kernel_rfl
--CFEND
end Go.Proofs.Ytfgehfnlkakioaa.VC
