/- stamp, and the document's answer for it: proved; closed forms of the laws. -/
import Derived.Test.YtfgehfnlkakioaaT4
namespace Go.Proofs.Ytfgehfnlkakioaa.VC
open Go Go.Proofs

theorem u32r {args : List Value} {h : Heap} (hr : RealA args h) (i : Nat) {x : Int} (ha : args[i]? = some (.int .u32 x)) : 0 ≤ x ∧ x ≤ 4294967295 := hr.int ha
theorem ok42 : EntryOK Try.prog 42 F42 := by
  refine EntryOK.of_fn (mkS_nil _) follows_ok Try.func42 (by kernel_rfl) (by kernel_rfl) ?_
  intro args h k out hF
  unfold F42 at hF
  split at hF
  · rename_i s n
    cases hb : (decide (0 ≤ n) && decide (n < 1000000000)) with
    | false =>
      rw [hb, condF] at hF
      refine ⟨_, _, hF, fun _ => ⟨noL, noL_ok, ?_⟩⟩
      rw [cf42]
      simp only [Bool.and_eq_false_iff, decide_eq_false_iff_not] at hb
      exact dc (fun _ => rfl) (fun c1 => dc (fun _ => rfl) (fun c2 => by omega))
    | true =>
      rw [hb, condT] at hF
      refine ⟨_, _, hF, fun _ => ⟨noL, noL_ok, ?_⟩⟩
      simp only [Bool.and_eq_true, decide_eq_true_eq] at hb
      obtain ⟨N, rfl⟩ := Int.eq_ofNat_of_zero_le hb.1
      rw [cf42, dec_f (by omega), dec_f (by omega), condF, condF, wu32e]
      obtain ⟨S, hS⟩ := Int.eq_ofNat_of_zero_le (Int.emod_nonneg s (show (4294967296 : Int) ≠ 0 by decide))
      have hS2 : (S : Int) < 4294967296 := by rw [← hS]; exact Int.emod_lt_of_pos _ (by decide)
      rw [hS, wrapN S (by omega), show (S : Int) * 4294967296 = ((S * 4294967296 : Nat) : Int) by omega, wrapN _ (by omega), wrapN N (by omega), show (N : Int) * 4294967296 = ((N * 4294967296 : Nat) : Int) by omega, wrapN _ (by omega),
        Int.tdiv_eq_ediv_of_nonneg (by omega), show ((N * 4294967296 : Nat) : Int) / 1000000000 = ((N * 4294967296 / 1000000000 : Nat) : Int) by omega, wrapN _ (by omega), orN _ _ (by omega) (by omega), Int.natCast_add]
  · cases hF

theorem up_pos {n : Int} (h : 0 < n) : 0 < -(-n / 1000000000) := by omega
theorem ok43 : EntryOK Try.prog 43 F43 := by
  refine EntryOK.of_fn S43_ok follows_ok Try.func43 (by kernel_rfl) (by kernel_rfl) ?_
  intro args h k out hF
  unfold F43 at hF
  split at hF
  · rename_i n
    refine ⟨_, _, hF, fun real => ⟨noL, noL_ok, ?_⟩⟩
    have hn := i64r real 0 rfl
    rw [cf43]
    unfold shortZ
    refine dc (fun c => ?_) (fun c => ?_)
    · rw [if_pos c]
    · rw [if_neg c]
      have e : upI n 65536 1000000000 = -(-(n * 65536) / 1000000000) := by unfold upI; rw [if_neg (by decide), hold_id (by omega)]
      rw [e]
      by_cases h2 : 4294967295 < -(-(n * 65536) / 1000000000)
      · rw [if_pos h2, wu32e]; rfl
      · rw [if_neg h2, wu32e, show -(-(n * 65536) / 1000000000) % 4294967296 = -(-(n * 65536) / 1000000000) by omega]
  · cases hF
theorem ok44 : EntryOK Try.prog 44 F44 := by
  refine EntryOK.of_fn S43_ok follows_ok Try.func44 (by kernel_rfl) (by kernel_rfl) ?_
  intro args h k out hF
  unfold F44 at hF
  split at hF
  · rename_i n
    refine ⟨_, _, hF, fun real => ⟨noL, noL_ok, ?_⟩⟩
    have hn := u32r real 0 rfl
    rw [cf44, swrap (by omega) (by omega)]
    unfold downI
    rw [if_neg (by decide), hold_id (by omega)]
  · cases hF
theorem ok46 : EntryOK Try.prog 46 F46 := by
  refine EntryOK.of_fn S43_ok follows_ok Try.func46 (by kernel_rfl) (by kernel_rfl) ?_
  intro args h k out hF
  unfold F46 at hF
  split at hF
  · exact ⟨_, _, hF, fun _ => ⟨noL, noL_ok, by rw [cf46, fd32]⟩⟩
  · cases hF
theorem ok47 : EntryOK Try.prog 47 F46 := by
  refine EntryOK.of_fn S45_ok follows_ok Try.func47 (by kernel_rfl) (by kernel_rfl) ?_
  intro args h k out hF
  unfold F46 at hF
  split at hF
  · exact ⟨_, _, hF, fun _ => ⟨noL, noL_ok, by rw [cf47]⟩⟩
  · cases hF
theorem nb16 : normB 1 (digits 65536) = true := normB_digits (v := 65536) (by decide)
theorem nb32m : normB 1 (digits 4294967295) = true := normB_digits (v := 4294967295) (by decide)
theorem ok45 : EntryOK Try.prog 45 F42 := by
  refine EntryOK.of_fn S45_ok follows_ok Try.func45 (by kernel_rfl) (by kernel_rfl) ?_
  intro args h k out hF
  unfold F42 at hF
  split at hF
  · rename_i s n
    cases hb : (decide (0 ≤ n) && decide (n < 1000000000)) with
    | false =>
      rw [hb, condF] at hF
      refine ⟨_, _, hF, fun _ => ⟨noL, noL_ok, ?_⟩⟩
      rw [cf45]
      simp only [Bool.and_eq_false_iff, decide_eq_false_iff_not] at hb
      exact dc (fun _ => rfl) (fun c1 => dc (fun _ => rfl) (fun c2 => by omega))
    | true =>
      rw [hb, condT] at hF
      refine ⟨_, _, hF, fun _ => ⟨noL, noL_ok, ?_⟩⟩
      simp only [Bool.and_eq_true, decide_eq_true_eq] at hb
      rw [cf45, dec_f (by omega), dec_f (by omega), condF, condF]
      have hs : sgn false n.natAbs = n := by rw [sgnF]; omega
      simp (disch := omega) only [numW_digits, hs, sgn_self, nb4, lb4, lb4', nb232, nb30, ble_self, Bool.and_self, condT, hold_id, wu64e]
      refine retEq ?_ rfl
      congr 4
      omega
  · cases hF
theorem ok48 : EntryOK Try.prog 48 F43 := by
  refine EntryOK.of_fn S45_ok follows_ok Try.func48 (by kernel_rfl) (by kernel_rfl) ?_
  intro args h k out hF
  unfold F43 at hF
  split at hF
  · rename_i n
    refine ⟨_, _, hF, fun real => ⟨noL, noL_ok, ?_⟩⟩
    have hn := i64r real 0 rfl
    rw [cf48]
    unfold shortZ
    refine dc (fun c => ?_) (fun c => ?_)
    · rw [if_pos c]
    · rw [if_neg c]
      simp (disch := omega) only [numW_digits, sgn_self, nb4, lb4, lb4', nb16, nb30, nb32m, ble_self, Bool.and_self, condT, chkz, cmp_gt]
      rw [chk_t (fun h => absurd h (by decide))]
      simp only [Bool.and_self, condT]
      refine dc (fun c2 => ?_) (fun c2 => ?_)
      · rw [if_pos c2]
      · rw [if_neg c2, hold_id (by omega), wu32e, show -(-(n * 65536) / 1000000000) % 4294967296 = -(-(n * 65536) / 1000000000) by omega]
  · cases hF
theorem ok49 : EntryOK Try.prog 49 F44 := by
  refine EntryOK.of_fn S45_ok follows_ok Try.func49 (by kernel_rfl) (by kernel_rfl) ?_
  intro args h k out hF
  unfold F44 at hF
  split at hF
  · rename_i n
    refine ⟨_, _, hF, fun real => ⟨noL, noL_ok, ?_⟩⟩
    have hn := u32r real 0 rfl
    rw [cf49, swrap (by omega) (by omega)]
    simp (disch := omega) only [numW_digits, sgn_self, nb4, lb4, lb4', nb16, nb30, ble_self, Bool.and_self, condT, hold_id]
  · cases hF

def S41 : Spec := mkS [(39, false, F39), (42, false, F42), (43, false, F43)]
theorem S41_ok : SpecOK Try.prog S41 := mkS_cons ok39 (mkS_cons ok42 (mkS_cons ok43 (mkS_nil _)))
--CF cf41 . :: fnK Try.prog S41 noL Try.f41 [] []
theorem cf41  : fnK Try.prog S41 noL Try.f41 [] [] =
    (some (Res.ret (Value.bool true) [])) := by kernel_rfl
--CFEND
theorem ok41 : EntryOK Try.prog 41 F22 := by
  refine EntryOK.of_fn S41_ok follows_ok Try.func41 (by kernel_rfl) (by kernel_rfl) ?_
  intro args h k out hF
  unfold F22 at hF
  split at hF
  · exact ⟨_, _, hF, fun _ => ⟨noL, noL_ok, by rw [cf41]⟩⟩
  · cases hF
def S8 : Spec := mkS [(39, false, F39), (41, false, F22), (42, false, F42), (43, false, F43), (44, false, F44)]
theorem S8_ok : SpecOK Try.prog S8 := mkS_cons ok39 (mkS_cons ok41 (mkS_cons ok42 (mkS_cons ok43 (mkS_cons ok44 (mkS_nil _)))))
--CF cf8 (s n o : Int) :: fnK Try.prog S8 noL Try.f8 [w63 s, w63 n, w63 o] []
theorem cf8 (s n o : Int) : fnK Try.prog S8 noL Try.f8 [w63 s, w63 n, w63 o] [] =
    (bif decide (s < -1152921504606846976) then some (Res.ret (Value.bool true) [])
     else
       bif decide (s > 1152921504606846976) then some (Res.ret (Value.bool true) [])
       else
         bif decide (n < 0) then some (Res.ret (Value.bool true) [])
         else
           bif decide (n ≥ 1000000000) then some (Res.ret (Value.bool true) [])
           else
             bif decide (o ≤ -2147483648) then some (Res.ret (Value.bool true) [])
             else
               bif decide (o ≥ 2147483648) then some (Res.ret (Value.bool true) [])
               else
                 bif decide (0 ≤ n) && decide (n < 1000000000) then
                   bif
                       nearZ (IntKind.i64.wrap (s + o))
                           ((s % 4294967296 * 4294967296 + n * 4294967296 / 1000000000) / 4294967296) !=
                         s then
                     some (Res.ret (Value.bool false) [])
                   else
                     bif nsZ ((s % 4294967296 * 4294967296 + n * 4294967296 / 1000000000) % 4294967296) != n then
                       some (Res.ret (Value.bool false) [])
                     else
                       bif decide (IntKind.i64.wrap (n + 1) < 1000000000) then
                         bif decide (0 ≤ IntKind.i64.wrap (n + 1)) && decide (IntKind.i64.wrap (n + 1) < 1000000000) then
                           bif
                               decide
                                 (s % 4294967296 * 4294967296 + IntKind.i64.wrap (n + 1) * 4294967296 / 1000000000 ≤
                                   s % 4294967296 * 4294967296 + n * 4294967296 / 1000000000) then
                             some (Res.ret (Value.bool false) [])
                           else
                             bif decide (shortZ n * 1000000000 / 65536 ≥ IntKind.i64.wrap (n - 15259)) then
                               bif decide (IntKind.i64.wrap (shortZ n * 1000000000 / 65536 + 1) ≥ n) then
                                 bif shortZ n == 0 then some (Res.ret (Value.bool true) [])
                                 else
                                   bif decide (IntKind.u32.wrap (shortZ n - 1) * 1000000000 / 65536 < n) then
                                     some (Res.ret (Value.bool true) [])
                                   else some (Res.ret (Value.bool false) [])
                               else some (Res.ret (Value.bool false) [])
                             else some (Res.ret (Value.bool false) [])
                         else
                           bif decide (0 ≤ s % 4294967296 * 4294967296 + n * 4294967296 / 1000000000) then
                             some (Res.ret (Value.bool false) [])
                           else
                             bif decide (shortZ n * 1000000000 / 65536 ≥ IntKind.i64.wrap (n - 15259)) then
                               bif decide (IntKind.i64.wrap (shortZ n * 1000000000 / 65536 + 1) ≥ n) then
                                 bif shortZ n == 0 then some (Res.ret (Value.bool true) [])
                                 else
                                   bif decide (IntKind.u32.wrap (shortZ n - 1) * 1000000000 / 65536 < n) then
                                     some (Res.ret (Value.bool true) [])
                                   else some (Res.ret (Value.bool false) [])
                               else some (Res.ret (Value.bool false) [])
                             else some (Res.ret (Value.bool false) [])
                       else
                         bif decide (shortZ n * 1000000000 / 65536 ≥ IntKind.i64.wrap (n - 15259)) then
                           bif decide (IntKind.i64.wrap (shortZ n * 1000000000 / 65536 + 1) ≥ n) then
                             bif shortZ n == 0 then some (Res.ret (Value.bool true) [])
                             else
                               bif decide (IntKind.u32.wrap (shortZ n - 1) * 1000000000 / 65536 < n) then
                                 some (Res.ret (Value.bool true) [])
                               else some (Res.ret (Value.bool false) [])
                           else some (Res.ret (Value.bool false) [])
                         else some (Res.ret (Value.bool false) [])
                 else some (Res.ret (Value.bool false) [])) := by kernel_rfl
--CFEND
def S9 : Spec := mkS [(41, false, F22), (42, false, F42), (43, false, F43), (44, false, F44), (45, false, F42), (46, false, F46), (47, false, F46), (48, false, F43), (49, false, F44)]
theorem S9_ok : SpecOK Try.prog S9 := mkS_cons ok41 (mkS_cons ok42 (mkS_cons ok43 (mkS_cons ok44 (mkS_cons ok45 (mkS_cons ok46 (mkS_cons ok47 (mkS_cons ok48 (mkS_cons ok49 (mkS_nil _)))))))))
--CF cf9 (s n : Int) (x : Int) :: fnK Try.prog S9 noL Try.f9 [w63 s, w63 n, .int .u32 x] []
theorem cf9 (s n : Int) (x : Int) : fnK Try.prog S9 noL Try.f9 [w63 s, w63 n, .int .u32 x] [] =
    (bif decide (0 ≤ n) && decide (n < 1000000000) then
       bif decide (0 ≤ n) && decide (n < 1000000000) then
         bif
             s % 4294967296 * 4294967296 + n * 4294967296 / 1000000000 ==
               s % 4294967296 * 4294967296 + n * 4294967296 / 1000000000 then
           bif s / 4294967296 == s / 4294967296 then
             bif shortZ n == shortZ n then
               bif x * 1000000000 / 65536 == x * 1000000000 / 65536 then some (Res.ret (Value.bool true) [])
               else some (Res.ret (Value.bool false) [])
             else some (Res.ret (Value.bool false) [])
           else some (Res.ret (Value.bool false) [])
         else some (Res.ret (Value.bool false) [])
       else
         bif s % 4294967296 * 4294967296 + n * 4294967296 / 1000000000 == 0 then some (Res.ret (Value.bool false) [])
         else some (Res.ret (Value.bool false) [])
     else
       bif decide (0 ≤ n) && decide (n < 1000000000) then
         bif 0 == s % 4294967296 * 4294967296 + n * 4294967296 / 1000000000 then some (Res.ret (Value.bool false) [])
         else some (Res.ret (Value.bool false) [])
       else
         bif s / 4294967296 == s / 4294967296 then
           bif shortZ n == shortZ n then
             bif x * 1000000000 / 65536 == x * 1000000000 / 65536 then some (Res.ret (Value.bool true) [])
             else some (Res.ret (Value.bool false) [])
           else some (Res.ret (Value.bool false) [])
         else some (Res.ret (Value.bool false) [])) := by kernel_rfl
--CFEND
end Go.Proofs.Ytfgehfnlkakioaa.VC
