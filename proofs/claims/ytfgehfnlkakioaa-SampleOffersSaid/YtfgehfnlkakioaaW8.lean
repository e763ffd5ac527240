/- The document's Follows and Offer; SampleOffers. -/
import Derived.Test.YtfgehfnlkakioaaW7
namespace Go.Proofs.Ytfgehfnlkakioaa.VC
open Go Go.Proofs

theorem nb500 : normB 1 (digits 500000000) = true := normB_digits (v := 500000000) (by decide)
theorem nb1500 : normB 1 (digits 1500000000) = true := normB_digits (v := 1500000000) (by decide)
theorem S62_ok : SpecOK Try.prog S62 := mkS_cons ok29 (mkS_cons ok31 (mkS_cons ok32 (mkS_cons ok35 (mkS_cons ok36 (mkS_cons ok76 (mkS_cons ok86 (mkS_nil _)))))))
theorem ok62 : EntryOK Try.prog 62 F61 := by
  refine EntryOK.of_runs Try.func62 (by kernel_rfl) (by kernel_rfl) ?_
  intro args h k out hF
  unfold F61 at hF
  split at hF
  · rename_i r n cc ct sc st se
    obtain ⟨hb, hF2⟩ := bif_t hF
    have he := chk_iff.1 hb
    refine ⟨_, _, hF2, fun real => ⟨ble_true (show Nat.ble 3 Try.f62.ntmps = true by kernel_rfl), ?_⟩⟩
    show RunsTo Try.prog Try.f62 0 (bodyOf Try.f62) _ _ _ _
    have hcc : -9223372036854775808 ≤ cc ∧ cc ≤ 9223372036854775807 := real.agg (i := 1) rfl (j := 1) rfl
    have hct : -9223372036854775808 ≤ ct ∧ ct ≤ 9223372036854775807 := real.agg (i := 1) rfl (j := 2) rfl
    have hsc : -9223372036854775808 ≤ sc ∧ sc ≤ 9223372036854775807 := real.agg (i := 2) rfl (j := 0) rfl
    have hst : -9223372036854775808 ≤ st ∧ st ≤ 9223372036854775807 := real.agg (i := 2) rfl (j := 1) rfl
    refine RunsTo.pieceN S62_ok follows_ok (L := noL) (by kernel_rfl) noL_ok (live := [0, 4, 5]) (vs1 := [w63 r, pt 0, pt 1]) (h1 := [cB n cc ct, cB sc st se]) (cf62p0 r n cc ct sc st se) ?_
    have no : ¬ (1 ≤ r ∧ r ≤ 500 ∧ 1 ≤ n ∧ 500000000 ≤ sc - cc ∧ sc - cc ≤ 1500000000 ∧ ((hold (st - ct) - (sc - cc)).natAbs : Int) ≤ -(-((sc - cc) * (2 * r + 1)) / 1000000) + 2 * se + 2) → followsB r n cc ct sc st se = false := fun h => chk_f h
    by_cases g1 : r < 1 ∨ r > 500 ∨ n < 1
    · rw [no (by omega)]
      refine RunsTo.early S62_ok follows_ok (L := noL) (by kernel_rfl) noL_ok (live := [0, 4, 5]) ((cf62p1 r n cc ct sc st se).trans ?_)
      refine dc (fun _ => rfl) (fun c1 => dc (fun _ => rfl) (fun c2 => dc (fun _ => rfl) (fun c3 => by omega)))
    refine RunsTo.pieceN S62_ok follows_ok (L := noL) (by kernel_rfl) noL_ok (live := [0, 4, 5]) (vs1 := [w63 r, pt 0, pt 1]) (h1 := [cB n cc ct, cB sc st se]) ?_ ?_
    · refine (cf62p1 r n cc ct sc st se).trans ?_
      rw [dec_f (by omega), dec_f (by omega), dec_f (by omega)]
      rfl
    refine RunsTo.pieceN S62_ok follows_ok (L := noL) (by kernel_rfl) noL_ok (live := [0, 4, 5, 7]) (vs1 := [w63 r, pt 0, pt 1, pt 2]) (h1 := [cB n cc ct, cB sc st se, zC 3 (sc - cc), zB (sc - cc)]) ?_ ?_
    · refine (cf62p2 r n cc ct sc st se).trans ?_
      simp (disch := omega) only [numW_digits, sgn_self, nb4, lb4, ble_self, Bool.and_self, condT]
      rfl
    have hx : (sc - cc).natAbs ≤ 18446744073709551616 := by omega
    unfold followsB at no ⊢
    generalize sc - cc = x at *
    have p3 := cf62p3 r n cc ct sc st se x
    simp (disch := omega) only [numW_digits, sgn_self, nb4, nb500, nb1500, ble_self, Bool.and_self, chkz, cmp_lt, cmp_gt] at p3
    rw [chk_t (fun h => absurd h (by decide))] at p3
    simp only [Bool.and_self, condT] at p3
    rw [chk_t (fun h => absurd h (by decide))] at p3
    simp only [Bool.and_self, condT] at p3
    by_cases g2 : x < 500000000 ∨ x > 1500000000
    · rw [no (by omega)]
      refine RunsTo.early S62_ok follows_ok (L := noL) (by kernel_rfl) noL_ok (live := [0, 4, 5, 7]) (p3.trans ?_)
      refine dc (fun _ => rfl) (fun c1 => ?_)
      rw [dec_t (show x > 1500000000 by omega)]
      rfl
    refine RunsTo.pieceN S62_ok follows_ok (L := noL) (by kernel_rfl) noL_ok (live := [0, 4, 5, 7]) (vs1 := [w63 r, pt 0, pt 1, pt 2]) (h1 := [cB n cc ct, cB sc st se, zC 3 x, zB x]) (p3.trans ?_) ?_
    · rw [dec_f (by omega), dec_f (by omega)]
      rfl
    have hh := hold_rng (st - ct)
    refine RunsTo.pieceN S62_ok follows_ok (L := noL) (by kernel_rfl) noL_ok (live := [0, 5, 7, 8]) (vs1 := [w63 r, pt 0, pt 1, pt 3]) (h1 := [cB sc st se, zC 2 x, zB x, zC 4 (hold (st - ct) - x), zB (hold (st - ct) - x)]) ?_ ?_
    · refine (cf62p4 r n cc ct sc st se x).trans ?_
      simp (disch := omega) only [numW_digits, sgn_self, nb4, lb4, ble_self, Bool.and_self, condT]
      rfl
    generalize hye : hold (st - ct) - x = y at *
    refine RunsTo.pieceN S62_ok follows_ok (L := noL) (by kernel_rfl) noL_ok (live := [0, 5, 7, 8]) (vs1 := [w63 r, pt 0, pt 1, pt 3]) (h1 := [cB sc st se, zC 2 x, zB x, zA 4 y, zB y]) (cf62p5 r sc st se x y) ?_
    have hm : 0 ≤ x * (2 * r + 1) ∧ x * (2 * r + 1) ≤ 1500000000 * 1001 := ⟨Int.mul_nonneg (by omega) (by omega), Int.mul_le_mul (by omega) (by omega) (by omega) (by omega)⟩
    refine RunsTo.pieceN S62_ok follows_ok (L := noL) (by kernel_rfl) noL_ok (live := [5, 8, 9]) (vs1 := [pt 0, pt 1, pt 3]) (h1 := [cB sc st se, zA 2 y, zB y, zC 4 (-(-(x * (2 * r + 1)) / 1000000)), zB (-(-(x * (2 * r + 1)) / 1000000))]) ?_ ?_
    · refine (cf62p6 r sc st se x y).trans ?_
      rw [swrap (x := 2 * r) (by omega) (by omega), swrap (x := 2 * r + 1) (by omega) (by omega)]
      simp (disch := omega) only [numW_digits, sgn_self, nb4, lb4, lb4', nb6, ble_self, Bool.and_self, condT]
      rfl
    generalize x * (2 * r + 1) = w at *
    refine RunsTo.tail S62_ok follows_ok (L := noL) noL_ok ?_
    refine (cf62p7 sc st se y (-(-w / 1000000))).trans ?_
    rw [swrap (x := 2 * se) (by omega) (by omega), swrap (x := 2 * se + 2) (by omega) (by omega)]
    simp (disch := omega) only [numW_digits, sgn_self, nb4, lb4, ble_self, Bool.and_self, condT, chkz, chkf, cmp_le, sgnF]
    refine bret ?_
    rw [chk_eq]
    exact decide_eq_decide.2 (by omega)
  · cases hF

noncomputable def F64 : FSpec := fun args h k => match args, h with
  | [.int .i64 r, .agg ⟨[.int .i64 e, .int .i64 t, .int .i64 b]⟩, .agg ⟨[.int .i64 n, .int .i64 cc, .int .i64 ct]⟩, .agg ⟨[.int .i64 sc, .int .i64 st, .int .i64 se]⟩, .int .i64 need], [] =>
    bif mayO r e t b n sc st se need then
      (bif takenB e t b st se then k (.tuple ⟨[.int .u8 1, a3 0 0 0]⟩) []
      else bif e == 10 then k (.tuple ⟨[.int .u8 2, a3 n cc ct]⟩) []
      else bif followsB r n cc ct sc st se then (bif decide (n + 1 ≥ need) then k (.tuple ⟨[.int .u8 3, a3 0 0 0]⟩) [] else k (.tuple ⟨[.int .u8 2, a3 (n + 1) sc st]⟩) [])
      else (bif decide (1 ≥ need) then k (.tuple ⟨[.int .u8 3, a3 0 0 0]⟩) [] else k (.tuple ⟨[.int .u8 2, a3 1 sc st]⟩) []))
    else none
  | _, _ => none
noncomputable def S12 : Spec := mkS [(59, false, F22), (60, false, F60), (61, false, F61), (62, false, F61), (63, false, F63), (64, false, F64)]
--CF cf12 (r e t b n cc ct sc st se need : Int) :: fnK Try.prog S12 noL Try.f12 [w63 r, a3 e t b, a3 n cc ct, a3 sc st se, w63 need] []
theorem cf12 (r e t b n cc ct sc st se need : Int) : fnK Try.prog S12 noL Try.f12 [w63 r, a3 e t b, a3 n cc ct, a3 sc st se, w63 need] [] =
    (bif decide (se < 0) then some (Res.ret (Value.bool true) [])
     else
       bif decide (se > 1152921504606846976) then some (Res.ret (Value.bool true) [])
       else
         bif mayO r e t b n sc st se need then
           bif takenB e t b st se then
             bif chk (0 ≤ se ∧ se ≤ 1152921504606846976) then
               bif chk (0 ≤ se ∧ se ≤ 1152921504606846976) then
                 bif !followsB r n cc ct sc st se == followsB r n cc ct sc st se then some (Res.ret (Value.bool false) [])
                 else
                   bif !mayO r e t b n sc st se need then some (Res.ret (Value.bool false) [])
                   else
                     bif mayO r e t b n sc st se need then
                       bif takenB e t b st se then some (Res.ret (Value.bool true) [])
                       else
                         bif e == 10 then some (Res.ret (Value.bool false) [])
                         else
                           bif followsB r n cc ct sc st se then
                             bif decide (n + 1 ≥ need) then some (Res.ret (Value.bool false) [])
                             else some (Res.ret (Value.bool false) [])
                           else
                             bif decide (1 ≥ need) then some (Res.ret (Value.bool false) [])
                             else some (Res.ret (Value.bool false) [])
                     else none
               else none
             else none
           else
             bif e == 10 then
               bif chk (0 ≤ se ∧ se ≤ 1152921504606846976) then
                 bif chk (0 ≤ se ∧ se ≤ 1152921504606846976) then
                   bif !followsB r n cc ct sc st se == followsB r n cc ct sc st se then some (Res.ret (Value.bool false) [])
                   else
                     bif !mayO r e t b n sc st se need then some (Res.ret (Value.bool false) [])
                     else
                       bif mayO r e t b n sc st se need then
                         bif takenB e t b st se then some (Res.ret (Value.bool false) [])
                         else
                           bif e == 10 then
                             bif n == n && (cc == cc && (ct == ct && true)) then some (Res.ret (Value.bool true) [])
                             else some (Res.ret (Value.bool false) [])
                           else
                             bif followsB r n cc ct sc st se then
                               bif decide (n + 1 ≥ need) then some (Res.ret (Value.bool false) [])
                               else
                                 bif n == n + 1 && (cc == sc && (ct == st && true)) then some (Res.ret (Value.bool true) [])
                                 else some (Res.ret (Value.bool false) [])
                             else
                               bif decide (1 ≥ need) then some (Res.ret (Value.bool false) [])
                               else
                                 bif n == 1 && (cc == sc && (ct == st && true)) then some (Res.ret (Value.bool true) [])
                                 else some (Res.ret (Value.bool false) [])
                       else none
                 else none
               else none
             else
               bif followsB r n cc ct sc st se then
                 bif decide (n + 1 ≥ need) then
                   bif chk (0 ≤ se ∧ se ≤ 1152921504606846976) then
                     bif chk (0 ≤ se ∧ se ≤ 1152921504606846976) then
                       bif !followsB r n cc ct sc st se == followsB r n cc ct sc st se then
                         some (Res.ret (Value.bool false) [])
                       else
                         bif !mayO r e t b n sc st se need then some (Res.ret (Value.bool false) [])
                         else
                           bif mayO r e t b n sc st se need then
                             bif takenB e t b st se then some (Res.ret (Value.bool false) [])
                             else
                               bif e == 10 then some (Res.ret (Value.bool false) [])
                               else
                                 bif followsB r n cc ct sc st se then
                                   bif decide (n + 1 ≥ need) then some (Res.ret (Value.bool true) [])
                                   else some (Res.ret (Value.bool false) [])
                                 else
                                   bif decide (1 ≥ need) then some (Res.ret (Value.bool true) [])
                                   else some (Res.ret (Value.bool false) [])
                           else none
                     else none
                   else none
                 else
                   bif chk (0 ≤ se ∧ se ≤ 1152921504606846976) then
                     bif chk (0 ≤ se ∧ se ≤ 1152921504606846976) then
                       bif !followsB r n cc ct sc st se == followsB r n cc ct sc st se then
                         some (Res.ret (Value.bool false) [])
                       else
                         bif !mayO r e t b n sc st se need then some (Res.ret (Value.bool false) [])
                         else
                           bif mayO r e t b n sc st se need then
                             bif takenB e t b st se then some (Res.ret (Value.bool false) [])
                             else
                               bif e == 10 then
                                 bif n + 1 == n && (sc == cc && (st == ct && true)) then some (Res.ret (Value.bool true) [])
                                 else some (Res.ret (Value.bool false) [])
                               else
                                 bif followsB r n cc ct sc st se then
                                   bif decide (n + 1 ≥ need) then some (Res.ret (Value.bool false) [])
                                   else
                                     bif n + 1 == n + 1 && (sc == sc && (st == st && true)) then
                                       some (Res.ret (Value.bool true) [])
                                     else some (Res.ret (Value.bool false) [])
                                 else
                                   bif decide (1 ≥ need) then some (Res.ret (Value.bool false) [])
                                   else
                                     bif n + 1 == 1 && (sc == sc && (st == st && true)) then
                                       some (Res.ret (Value.bool true) [])
                                     else some (Res.ret (Value.bool false) [])
                           else none
                     else none
                   else none
               else
                 bif decide (1 ≥ need) then
                   bif chk (0 ≤ se ∧ se ≤ 1152921504606846976) then
                     bif chk (0 ≤ se ∧ se ≤ 1152921504606846976) then
                       bif !followsB r n cc ct sc st se == followsB r n cc ct sc st se then
                         some (Res.ret (Value.bool false) [])
                       else
                         bif !mayO r e t b n sc st se need then some (Res.ret (Value.bool false) [])
                         else
                           bif mayO r e t b n sc st se need then
                             bif takenB e t b st se then some (Res.ret (Value.bool false) [])
                             else
                               bif e == 10 then some (Res.ret (Value.bool false) [])
                               else
                                 bif followsB r n cc ct sc st se then
                                   bif decide (n + 1 ≥ need) then some (Res.ret (Value.bool true) [])
                                   else some (Res.ret (Value.bool false) [])
                                 else
                                   bif decide (1 ≥ need) then some (Res.ret (Value.bool true) [])
                                   else some (Res.ret (Value.bool false) [])
                           else none
                     else none
                   else none
                 else
                   bif chk (0 ≤ se ∧ se ≤ 1152921504606846976) then
                     bif chk (0 ≤ se ∧ se ≤ 1152921504606846976) then
                       bif !followsB r n cc ct sc st se == followsB r n cc ct sc st se then
                         some (Res.ret (Value.bool false) [])
                       else
                         bif !mayO r e t b n sc st se need then some (Res.ret (Value.bool false) [])
                         else
                           bif mayO r e t b n sc st se need then
                             bif takenB e t b st se then some (Res.ret (Value.bool false) [])
                             else
                               bif e == 10 then
                                 bif 1 == n && (sc == cc && (st == ct && true)) then some (Res.ret (Value.bool true) [])
                                 else some (Res.ret (Value.bool false) [])
                               else
                                 bif followsB r n cc ct sc st se then
                                   bif decide (n + 1 ≥ need) then some (Res.ret (Value.bool false) [])
                                   else
                                     bif 1 == n + 1 && (sc == sc && (st == st && true)) then
                                       some (Res.ret (Value.bool true) [])
                                     else some (Res.ret (Value.bool false) [])
                                 else
                                   bif decide (1 ≥ need) then some (Res.ret (Value.bool false) [])
                                   else
                                     bif 1 == 1 && (sc == sc && (st == st && true)) then some (Res.ret (Value.bool true) [])
                                     else some (Res.ret (Value.bool false) [])
                           else none
                     else none
                   else none
         else
           bif chk (0 ≤ se ∧ se ≤ 1152921504606846976) then
             bif chk (0 ≤ se ∧ se ≤ 1152921504606846976) then
               bif !followsB r n cc ct sc st se == followsB r n cc ct sc st se then some (Res.ret (Value.bool false) [])
               else
                 bif !mayO r e t b n sc st se need then some (Res.ret (Value.bool true) [])
                 else
                   bif mayO r e t b n sc st se need then
                     bif takenB e t b st se then some (Res.ret (Value.bool false) [])
                     else
                       bif e == 10 then some (Res.ret (Value.bool false) [])
                       else
                         bif followsB r n cc ct sc st se then
                           bif decide (n + 1 ≥ need) then some (Res.ret (Value.bool false) [])
                           else some (Res.ret (Value.bool false) [])
                         else
                           bif decide (1 ≥ need) then some (Res.ret (Value.bool false) [])
                           else some (Res.ret (Value.bool false) [])
                   else none
             else none
           else none) := by kernel_rfl
--CFEND

theorem S64_ok : SpecOK Try.prog S64 := mkS_cons ok62 (mkS_cons ok106 (mkS_nil _))
theorem ok64 : EntryOK Try.prog 64 F64 := by
  refine EntryOK.of_fn S64_ok follows_ok Try.func64 (by kernel_rfl) (by kernel_rfl) ?_
  intro args h k out hF
  unfold F64 at hF
  split at hF
  · rename_i r e t b n cc ct sc st se need
    obtain ⟨hm, hF⟩ := bif_t hF
    obtain ⟨r1, r2, hr, hs, q1, q2, n1, n2⟩ := chk_iff.1 hm
    have hs2 := chk_iff.1 hs
    have hr2 := chk_iff.1 hr
    have cf := cf64 r e t b n cc ct sc st se need
    rw [chk_t (show 0 ≤ se ∧ se ≤ 1152921504606846976 by omega), swrap (x := 1 + n) (by omega) (by omega), Int.add_comm 1 n] at cf
    simp only [condT] at cf
    by_cases h10 : e = 10
    · have ht : takenB e t b st se = false := chk_f (fun h => by rcases h with h | h | h; omega; omega; exact h.1 h10)
      rw [ht, condF] at hF
      subst h10
      simp only [beq_self_eq_true, condT] at cf hF
      exact ⟨_, _, hF, fun _ => ⟨noL, noL_ok, cf⟩⟩
    rw [beq_eq_false_iff_ne.2 h10] at cf hF
    simp only [condF] at cf hF
    by_cases h0 : e = 0
    · have hd : meetB t b st se = takenB e t b st se := chk_congr ⟨fun h => .inr (.inr ⟨h10, by omega⟩), fun h => by rcases h with h | h | h; omega; omega; exact ⟨by omega, by omega⟩⟩
      rw [hd] at cf
      subst h0
      simp only [bne_self_eq_false, condF] at cf
      cases ht : takenB 0 t b st se with
      | true =>
        rw [ht, condT] at cf hF
        exact ⟨_, _, hF, fun _ => ⟨noL, noL_ok, cf⟩⟩
      | false =>
        rw [ht, condF] at cf hF
        cases hf : followsB r n cc ct sc st se with
        | true =>
          rw [hf, condT] at cf hF
          cases hq : decide (n + 1 ≥ need) with
          | true => rw [hq, condT] at cf hF; exact ⟨_, _, hF, fun _ => ⟨noL, noL_ok, cf⟩⟩
          | false => rw [hq, condF] at cf hF; exact ⟨_, _, hF, fun _ => ⟨noL, noL_ok, cf⟩⟩
        | false =>
          rw [hf, condF] at cf hF
          cases hq : decide (1 ≥ need) with
          | true => rw [hq, condT] at cf hF; exact ⟨_, _, hF, fun _ => ⟨noL, noL_ok, cf⟩⟩
          | false => rw [hq, condF] at cf hF; exact ⟨_, _, hF, fun _ => ⟨noL, noL_ok, cf⟩⟩
    · have ht : takenB e t b st se = true := chk_t (by omega)
      rw [ht, condT] at hF
      rw [show (e != 0) = true from bne_iff_ne.2 h0, condT] at cf
      exact ⟨_, _, hF, fun _ => ⟨noL, noL_ok, cf⟩⟩
  · cases hF
theorem S12_ok : SpecOK Try.prog S12 := mkS_cons ok59 (mkS_cons ok60 (mkS_cons ok61 (mkS_cons ok62 (mkS_cons ok63 (mkS_cons ok64 (mkS_nil _))))))
theorem law12 {r e t b n cc ct sc st se need : Int} : fnK Try.prog S12 noL Try.f12 [w63 r, a3 e t b, a3 n cc ct, a3 sc st se, w63 need] [] = some (.ret (.bool true) []) := by
  refine (cf12 r e t b n cc ct sc st se need).trans ?_
  refine dc (fun _ => rfl) (fun c1 => dc (fun _ => rfl) (fun c2 => ?_))
  rw [chk_t (show 0 ≤ se ∧ se ≤ 1152921504606846976 by omega)]
  cases mayO r e t b n sc st se need <;> cases takenB e t b st se <;> cases (e == 10) <;> cases followsB r n cc ct sc st se <;> cases decide (n + 1 ≥ need) <;> cases decide (1 ≥ need) <;>
    simp only [condT, condF, beq_self_eq_true, Bool.not_true, Bool.not_false, Bool.and_self]
def F12 : FSpec := fun args h k => match args, h with
  | [.int .i64 _, .agg ⟨[.int .i64 _, .int .i64 _, .int .i64 _]⟩, .agg ⟨[.int .i64 _, .int .i64 _, .int .i64 _]⟩, .agg ⟨[.int .i64 _, .int .i64 _, .int .i64 _]⟩, .int .i64 _], [] => k (.bool true) []
  | _, _ => none
theorem ok12 : EntryOK Try.prog 12 F12 := by
  refine EntryOK.of_fn S12_ok follows_ok Try.func12 (by kernel_rfl) (by kernel_rfl) ?_
  intro args h k out hF
  unfold F12 at hF
  split at hF
  · exact ⟨_, _, hF, fun _ => ⟨noL, noL_ok, law12⟩⟩
  · cases hF
end Go.Proofs.Ytfgehfnlkakioaa.VC
