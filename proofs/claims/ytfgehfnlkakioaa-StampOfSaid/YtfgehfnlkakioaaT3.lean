/- The document's answer for stamps: Split's loop. -/
import Derived.Test.YtfgehfnlkakioaaT2
namespace Go.Proofs.Ytfgehfnlkakioaa.VC
open Go Go.Proofs

theorem chkz {z : Int} : chk (decide (z < 0) = true → 0 < z.natAbs) = true := chk_t (fun h => by have := of_decide_eq_true h; omega)
theorem chkf {p : Prop} : chk (false = true → p) = true := chk_t (fun h => by cases h)
theorem chkt {p : Prop} (h : p) : chk (true = true → p) = true := chk_t (fun _ => h)
theorem cmp_lt {a b : Int} : decide (cmpZ a b < 0) = decide (a < b) := by
  refine decide_eq_decide.2 ?_
  unfold cmpZ
  split
  · omega
  · split <;> omega
theorem cmp_gt {a b : Int} : decide (cmpZ a b > 0) = decide (a > b) := by
  refine decide_eq_decide.2 ?_
  unfold cmpZ
  split
  · omega
  · split <;> omega
theorem sgnF (v : Nat) : sgn false v = (v : Int) := rfl
theorem nb263 : normB 2 (digits 9223372036854775808) = true := normB_digits (v := 9223372036854775808) (by decide)
theorem nb2631 : normB 2 (digits 9223372036854775807) = true := normB_digits (v := 9223372036854775807) (by decide)
abbrev st40 (p low ns e : Int) (f : Bool) (q : Int) : List Value := [w63 p, w63 low, w63 ns, w63 e, pt 0, .bool f, w63 q]
abbrev zX (z : Int) : Option Blk := bx (decide (z < 0)) 1 (digits z.natAbs).length 2

theorem roundA {p low ns e q : Int} (hl : 0 ≤ low ∧ low < 4294967296) (hq : -2147483650 ≤ q ∧ q ≤ 2147483650) (he : -2147483648 ≤ e ∧ e ≤ 2147483648) (hqe : q ≤ e + 1) {on : List Value → Heap → Out} {out : Exit → List Value → Heap → Out} :
    roundK Try.prog S40 noL Try.f40.ntmps 0 (loopOf Try.f40 0) live40 (st40 p low ns e false q) [nb false] on out =
    bif decide (q * 4294967296 + low < -9223372036854775808) then on (st40 p low ns e false (q + 1)) [nb false]
    else bif decide (q * 4294967296 + low > 9223372036854775807) then on (st40 p low ns e false (q + 1)) [nb false]
    else on (st40 p low ns e true (q + 1)) [zX (q * 4294967296 + low), zB (q * 4294967296 + low)] := by
  rw [cf40A]
  simp (disch := omega) only [numW_digits, sgn_self, nb4, lb4, nb232, nb263, nb2631, ble_self, Bool.and_self, condT, chkz, cmp_lt, cmp_gt, swrap, dec_t hqe]
  rw [chk_t (fun h => absurd h (by decide))]
  simp only [Bool.and_self, condT]

theorem roundB {p low ns e q y : Int} (hp : -9223372036854775808 ≤ p ∧ p ≤ 9223372036854775807) (hl : 0 ≤ low ∧ low < 4294967296) (hq : -2147483650 ≤ q ∧ q ≤ 2147483650) (he : -2147483648 ≤ e ∧ e ≤ 2147483648) (hqe : q ≤ e + 1) (hy : -9223372036854775808 ≤ y ∧ y ≤ 9223372036854775807) {on : List Value → Heap → Out} {out : Exit → List Value → Heap → Out} :
    roundK Try.prog S40 noL Try.f40.ntmps 0 (loopOf Try.f40 0) live40 (st40 p low ns e true q) [zX y, zB y] on out =
    bif decide (q * 4294967296 + low < -9223372036854775808) then on (st40 p low ns e true (q + 1)) [zX y, zB y]
    else bif decide (q * 4294967296 + low > 9223372036854775807) then on (st40 p low ns e true (q + 1)) [zX y, zB y]
    else bif decide ((q * 4294967296 + low - p).natAbs < (y - p).natAbs) then on (st40 p low ns e true (q + 1)) [zX (q * 4294967296 + low), zB (q * 4294967296 + low)]
    else on (st40 p low ns e true (q + 1)) [zX y, zB y] := by
  rw [cf40B]
  simp (disch := omega) only [numW_digits, sgn_self, nb4, lb4, nb232, nb263, nb2631, ble_self, Bool.and_self, condT, chkz, chkf, cmp_lt, cmp_gt, swrap, sgnF, dec_t hqe]
  rw [chk_t (fun h => absurd h (by decide))]
  simp only [Bool.and_self, condT]
  rw [show decide (((q * 4294967296 + low - p).natAbs : Int) < ((y - p).natAbs : Int)) = decide ((q * 4294967296 + low - p).natAbs < (y - p).natAbs) from decide_eq_decide.2 (by omega)]

theorem roundX {p low ns e q y : Int} (he : -2147483648 ≤ e ∧ e ≤ 2147483648) (hqe : ¬ q ≤ e + 1) {on : List Value → Heap → Out} {out : Exit → List Value → Heap → Out} :
    roundK Try.prog S40 noL Try.f40.ntmps 0 (loopOf Try.f40 0) live40 (st40 p low ns e true q) [zX y, zB y] on out = out (.exit 0) (st40 p low ns e true q) [zX y, zB y] := by
  rw [cf40B, swrap (x := e + 1) (by omega) (by omega), dec_f hqe, condF]

theorem loop40 {p low ns e : Int} (hp : -9223372036854775808 ≤ p ∧ p ≤ 9223372036854775807) (hl : 0 ≤ low ∧ low < 4294967296) (he : e = p / 4294967296) {k : Exit → List Value → Heap → Out} :
    loopN Try.prog S40 noL Try.f40.ntmps 0 (loopOf Try.f40 0) live40 4 (st40 p low ns e false (e - 1)) [nb false] k = k (.exit 0) (st40 p low ns e true (e + 2)) [zX (nearZ p low), zB (nearZ p low)] := by
  have fin : ∀ y : Int, y = nearZ p low → loopN Try.prog S40 noL Try.f40.ntmps 0 (loopOf Try.f40 0) live40 1 (st40 p low ns e true (e - 1 + 1 + 1 + 1)) [zX y, zB y] k = k (.exit 0) (st40 p low ns e true (e + 2)) [zX (nearZ p low), zB (nearZ p low)] := by
    intro y hy
    subst hy
    rw [loopN_succ, roundX (by omega) (by omega), show e - 1 + 1 + 1 + 1 = e + 2 by omega]
  have third : ∀ y : Int, -9223372036854775808 ≤ y ∧ y ≤ 9223372036854775807 → (if (e + 1) * 4294967296 + low > 9223372036854775807 then y else if ((e + 1) * 4294967296 + low - p).natAbs < (y - p).natAbs then (e + 1) * 4294967296 + low else y) = nearZ p low →
      loopN Try.prog S40 noL Try.f40.ntmps 0 (loopOf Try.f40 0) live40 2 (st40 p low ns e true (e - 1 + 1 + 1)) [zX y, zB y] k = k (.exit 0) (st40 p low ns e true (e + 2)) [zX (nearZ p low), zB (nearZ p low)] := by
    intro y hy hn
    rw [loopN_succ, roundB hp hl (by omega) (by omega) (by omega) hy, show (e - 1 + 1 + 1) * 4294967296 + low = (e + 1) * 4294967296 + low by omega]
    refine dc (fun c => by omega) (fun _ => dc (fun c => ?_) (fun c => dc (fun c2 => ?_) (fun c2 => ?_)))
    · exact fin y (by rw [← hn, if_pos c])
    · exact fin _ (by rw [← hn, if_neg c, if_pos c2])
    · exact fin _ (by rw [← hn, if_neg c, if_neg c2])
  rw [loopN_succ, roundA hl (by omega) (by omega) (by omega)]
  refine dc (fun c1 => ?_) (fun c1 => dc (fun c => by omega) (fun _ => ?_))
  · rw [loopN_succ, roundA hl (by omega) (by omega) (by omega), show (e - 1 + 1) * 4294967296 + low = e * 4294967296 + low by omega, dec_f (by omega), dec_f (by omega)]
    simp only [condF]
    refine third _ (by omega) ?_
    unfold nearZ
    simp only
    repeat' split
    all_goals omega
  · rw [loopN_succ, roundB hp hl (by omega) (by omega) (by omega) (by omega), show (e - 1 + 1) * 4294967296 + low = e * 4294967296 + low by omega, dec_f (by omega), dec_f (by omega)]
    simp only [condF]
    refine dc (fun c2 => third _ (by omega) ?_) (fun c2 => third _ (by omega) ?_)
    · unfold nearZ
      simp only
      repeat' split
      all_goals omega
    · unfold nearZ
      simp only
      repeat' split
      all_goals omega

noncomputable def L40f : LF := fun vs h k => match vs, h with
  | [.int .i64 p, .int .i64 low, .int .i64 ns, .int .i64 e, .pointer (some ⟨0, 0, none⟩), .bool false, .int .i64 q], [some ⟨true, 2, [.vals [.bool false, .slice none 0 0]]⟩] =>
    bif chk ((-9223372036854775808 ≤ p ∧ p ≤ 9223372036854775807) ∧ (0 ≤ low ∧ low < 4294967296) ∧ e = p / 4294967296 ∧ q = e - 1) then
      k (.exit 0) (st40 p low ns e true (e + 2)) [zX (nearZ p low), zB (nearZ p low)] else none
  | _, _ => none
theorem S40_ok : SpecOK Try.prog S40 := mkS_cons ok27 (mkS_cons ok29 (mkS_cons ok32 (mkS_cons ok35 (mkS_cons ok76 (mkS_cons ok86 (mkS_cons ok98 (mkS_cons ok99 (mkS_cons ok100 (mkS_nil _)))))))))
theorem loopOK40 : LoopOK Try.prog Try.f40.ntmps 0 (loopOf Try.f40 0) live40 L40f := by
  refine LoopOK.of_rounds S40_ok follows_ok (L := noL) noL_ok ?_
  intro vs h k out hk
  unfold L40f at hk
  split at hk
  · rename_i p low ns e q
    obtain ⟨hb, hk2⟩ := bif_t hk
    obtain ⟨hp, hl, he, rfl⟩ := chk_iff.1 hb
    exact ⟨_, _, _, hk2, fun _ => ⟨4, loop40 hp hl he⟩⟩
  · cases hk
noncomputable def L40 : LSpec := oneL 8 live40 L40f
theorem loops40 : LoopsOK Try.prog L40 Try.f40.ntmps 0 (bodyOf Try.f40) := loops_one rfl (by kernel_rfl) loopOK40
--CF cf40 (a p : Int) :: fnK Try.prog S40 L40 Try.f40 [w64 a, w63 p] []
theorem cf40 (a p : Int) : fnK Try.prog S40 L40 Try.f40 [w64 a, w63 p] [] =
    (bif
         normB (digits (IntKind.i64.wrap (a.tmod 4294967296)).natAbs).length
                     (digits (IntKind.i64.wrap (a.tmod 4294967296)).natAbs) &&
                   normB 1 (digits 1000000000) &&
                 (digits (IntKind.i64.wrap (a.tmod 4294967296)).natAbs).length.ble
                   (digits (IntKind.i64.wrap (a.tmod 4294967296)).natAbs).length &&
               true &&
             (digits (IntKind.i64.wrap (a.tmod 4294967296)).natAbs).length.ble (OfNat.ofNat 400000) &&
           true then
       bif
           normB
                           (digits
                               (sgn (decide (IntKind.i64.wrap (a.tmod 4294967296) < 0))
                                     (numW (digits (IntKind.i64.wrap (a.tmod 4294967296)).natAbs).length
                                       (digits (IntKind.i64.wrap (a.tmod 4294967296)).natAbs)) *
                                   1000000000).natAbs).length
                           (digits
                             (sgn (decide (IntKind.i64.wrap (a.tmod 4294967296) < 0))
                                   (numW (digits (IntKind.i64.wrap (a.tmod 4294967296)).natAbs).length
                                     (digits (IntKind.i64.wrap (a.tmod 4294967296)).natAbs)) *
                                 1000000000).natAbs) &&
                         normB 2 (digits 4294967296) &&
                       (digits
                               (sgn (decide (IntKind.i64.wrap (a.tmod 4294967296) < 0))
                                     (numW (digits (IntKind.i64.wrap (a.tmod 4294967296)).natAbs).length
                                       (digits (IntKind.i64.wrap (a.tmod 4294967296)).natAbs)) *
                                   1000000000).natAbs).length.ble
                         (digits
                             (sgn (decide (IntKind.i64.wrap (a.tmod 4294967296) < 0))
                                   (numW (digits (IntKind.i64.wrap (a.tmod 4294967296)).natAbs).length
                                     (digits (IntKind.i64.wrap (a.tmod 4294967296)).natAbs)) *
                                 1000000000).natAbs).length &&
                     true &&
                   (digits
                           (sgn (decide (IntKind.i64.wrap (a.tmod 4294967296) < 0))
                                 (numW (digits (IntKind.i64.wrap (a.tmod 4294967296)).natAbs).length
                                   (digits (IntKind.i64.wrap (a.tmod 4294967296)).natAbs)) *
                               1000000000).natAbs).length.ble
                     (OfNat.ofNat 399999) &&
                 true &&
               true &&
             true then
         bif
             normB
                 (digits
                     (-(-sgn
                               (decide
                                 (sgn (decide (IntKind.i64.wrap (a.tmod 4294967296) < 0))
                                       (numW (digits (IntKind.i64.wrap (a.tmod 4294967296)).natAbs).length
                                         (digits (IntKind.i64.wrap (a.tmod 4294967296)).natAbs)) *
                                     1000000000 <
                                   0))
                               (numW
                                 (digits
                                     (sgn (decide (IntKind.i64.wrap (a.tmod 4294967296) < 0))
                                           (numW (digits (IntKind.i64.wrap (a.tmod 4294967296)).natAbs).length
                                             (digits (IntKind.i64.wrap (a.tmod 4294967296)).natAbs)) *
                                         1000000000).natAbs).length
                                 (digits
                                   (sgn (decide (IntKind.i64.wrap (a.tmod 4294967296) < 0))
                                         (numW (digits (IntKind.i64.wrap (a.tmod 4294967296)).natAbs).length
                                           (digits (IntKind.i64.wrap (a.tmod 4294967296)).natAbs)) *
                                       1000000000).natAbs)) /
                           4294967296)).natAbs).length
                 (digits
                   (-(-sgn
                             (decide
                               (sgn (decide (IntKind.i64.wrap (a.tmod 4294967296) < 0))
                                     (numW (digits (IntKind.i64.wrap (a.tmod 4294967296)).natAbs).length
                                       (digits (IntKind.i64.wrap (a.tmod 4294967296)).natAbs)) *
                                   1000000000 <
                                 0))
                             (numW
                               (digits
                                   (sgn (decide (IntKind.i64.wrap (a.tmod 4294967296) < 0))
                                         (numW (digits (IntKind.i64.wrap (a.tmod 4294967296)).natAbs).length
                                           (digits (IntKind.i64.wrap (a.tmod 4294967296)).natAbs)) *
                                       1000000000).natAbs).length
                               (digits
                                 (sgn (decide (IntKind.i64.wrap (a.tmod 4294967296) < 0))
                                       (numW (digits (IntKind.i64.wrap (a.tmod 4294967296)).natAbs).length
                                         (digits (IntKind.i64.wrap (a.tmod 4294967296)).natAbs)) *
                                     1000000000).natAbs)) /
                         4294967296)).natAbs) &&
               (digits
                       (-(-sgn
                                 (decide
                                   (sgn (decide (IntKind.i64.wrap (a.tmod 4294967296) < 0))
                                         (numW (digits (IntKind.i64.wrap (a.tmod 4294967296)).natAbs).length
                                           (digits (IntKind.i64.wrap (a.tmod 4294967296)).natAbs)) *
                                       1000000000 <
                                     0))
                                 (numW
                                   (digits
                                       (sgn (decide (IntKind.i64.wrap (a.tmod 4294967296) < 0))
                                             (numW (digits (IntKind.i64.wrap (a.tmod 4294967296)).natAbs).length
                                               (digits (IntKind.i64.wrap (a.tmod 4294967296)).natAbs)) *
                                           1000000000).natAbs).length
                                   (digits
                                     (sgn (decide (IntKind.i64.wrap (a.tmod 4294967296) < 0))
                                           (numW (digits (IntKind.i64.wrap (a.tmod 4294967296)).natAbs).length
                                             (digits (IntKind.i64.wrap (a.tmod 4294967296)).natAbs)) *
                                         1000000000).natAbs)) /
                             4294967296)).natAbs).length.ble
                 (digits
                     (-(-sgn
                               (decide
                                 (sgn (decide (IntKind.i64.wrap (a.tmod 4294967296) < 0))
                                       (numW (digits (IntKind.i64.wrap (a.tmod 4294967296)).natAbs).length
                                         (digits (IntKind.i64.wrap (a.tmod 4294967296)).natAbs)) *
                                     1000000000 <
                                   0))
                               (numW
                                 (digits
                                     (sgn (decide (IntKind.i64.wrap (a.tmod 4294967296) < 0))
                                           (numW (digits (IntKind.i64.wrap (a.tmod 4294967296)).natAbs).length
                                             (digits (IntKind.i64.wrap (a.tmod 4294967296)).natAbs)) *
                                         1000000000).natAbs).length
                                 (digits
                                   (sgn (decide (IntKind.i64.wrap (a.tmod 4294967296) < 0))
                                         (numW (digits (IntKind.i64.wrap (a.tmod 4294967296)).natAbs).length
                                           (digits (IntKind.i64.wrap (a.tmod 4294967296)).natAbs)) *
                                       1000000000).natAbs)) /
                           4294967296)).natAbs).length then
           bif
               decide
                 (hold
                     (sgn
                       (decide
                         (-(-sgn
                                   (decide
                                     (sgn (decide (IntKind.i64.wrap (a.tmod 4294967296) < 0))
                                           (numW (digits (IntKind.i64.wrap (a.tmod 4294967296)).natAbs).length
                                             (digits (IntKind.i64.wrap (a.tmod 4294967296)).natAbs)) *
                                         1000000000 <
                                       0))
                                   (numW
                                     (digits
                                         (sgn (decide (IntKind.i64.wrap (a.tmod 4294967296) < 0))
                                               (numW (digits (IntKind.i64.wrap (a.tmod 4294967296)).natAbs).length
                                                 (digits (IntKind.i64.wrap (a.tmod 4294967296)).natAbs)) *
                                             1000000000).natAbs).length
                                     (digits
                                       (sgn (decide (IntKind.i64.wrap (a.tmod 4294967296) < 0))
                                             (numW (digits (IntKind.i64.wrap (a.tmod 4294967296)).natAbs).length
                                               (digits (IntKind.i64.wrap (a.tmod 4294967296)).natAbs)) *
                                           1000000000).natAbs)) /
                               4294967296) <
                           0))
                       (numW
                         (digits
                             (-(-sgn
                                       (decide
                                         (sgn (decide (IntKind.i64.wrap (a.tmod 4294967296) < 0))
                                               (numW (digits (IntKind.i64.wrap (a.tmod 4294967296)).natAbs).length
                                                 (digits (IntKind.i64.wrap (a.tmod 4294967296)).natAbs)) *
                                             1000000000 <
                                           0))
                                       (numW
                                         (digits
                                             (sgn (decide (IntKind.i64.wrap (a.tmod 4294967296) < 0))
                                                   (numW (digits (IntKind.i64.wrap (a.tmod 4294967296)).natAbs).length
                                                     (digits (IntKind.i64.wrap (a.tmod 4294967296)).natAbs)) *
                                                 1000000000).natAbs).length
                                         (digits
                                           (sgn (decide (IntKind.i64.wrap (a.tmod 4294967296) < 0))
                                                 (numW (digits (IntKind.i64.wrap (a.tmod 4294967296)).natAbs).length
                                                   (digits (IntKind.i64.wrap (a.tmod 4294967296)).natAbs)) *
                                               1000000000).natAbs)) /
                                   4294967296)).natAbs).length
                         (digits
                           (-(-sgn
                                     (decide
                                       (sgn (decide (IntKind.i64.wrap (a.tmod 4294967296) < 0))
                                             (numW (digits (IntKind.i64.wrap (a.tmod 4294967296)).natAbs).length
                                               (digits (IntKind.i64.wrap (a.tmod 4294967296)).natAbs)) *
                                           1000000000 <
                                         0))
                                     (numW
                                       (digits
                                           (sgn (decide (IntKind.i64.wrap (a.tmod 4294967296) < 0))
                                                 (numW (digits (IntKind.i64.wrap (a.tmod 4294967296)).natAbs).length
                                                   (digits (IntKind.i64.wrap (a.tmod 4294967296)).natAbs)) *
                                               1000000000).natAbs).length
                                       (digits
                                         (sgn (decide (IntKind.i64.wrap (a.tmod 4294967296) < 0))
                                               (numW (digits (IntKind.i64.wrap (a.tmod 4294967296)).natAbs).length
                                                 (digits (IntKind.i64.wrap (a.tmod 4294967296)).natAbs)) *
                                             1000000000).natAbs)) /
                                 4294967296)).natAbs))) >
                   999999999) then
             bif
                 chk
                   ((-9223372036854775808 ≤ p ∧ p ≤ 9223372036854775807) ∧
                     (0 ≤ IntKind.i64.wrap (IntKind.u64.wrap (a.tdiv 4294967296)) ∧
                         IntKind.i64.wrap (IntKind.u64.wrap (a.tdiv 4294967296)) < 4294967296) ∧
                       p / 4294967296 = p / 4294967296 ∧ IntKind.i64.wrap (p / 4294967296 - 1) = p / 4294967296 - 1) then
               bif
                   normB (digits (nearZ p (IntKind.i64.wrap (IntKind.u64.wrap (a.tdiv 4294967296)))).natAbs).length
                       (digits (nearZ p (IntKind.i64.wrap (IntKind.u64.wrap (a.tdiv 4294967296)))).natAbs) &&
                     (digits (nearZ p (IntKind.i64.wrap (IntKind.u64.wrap (a.tdiv 4294967296)))).natAbs).length.ble
                       (digits (nearZ p (IntKind.i64.wrap (IntKind.u64.wrap (a.tdiv 4294967296)))).natAbs).length then
                 some
                   (Res.ret
                     (Value.tuple
                       (Array.mk
                         [Value.int IntKind.i64
                             (hold
                               (sgn (decide (nearZ p (IntKind.i64.wrap (IntKind.u64.wrap (a.tdiv 4294967296))) < 0))
                                 (numW
                                   (digits (nearZ p (IntKind.i64.wrap (IntKind.u64.wrap (a.tdiv 4294967296)))).natAbs).length
                                   (digits (nearZ p (IntKind.i64.wrap (IntKind.u64.wrap (a.tdiv 4294967296)))).natAbs)))),
                           Value.int IntKind.i64 999999999]))
                     [])
               else none
             else none
           else
             bif
                 chk
                   ((-9223372036854775808 ≤ p ∧ p ≤ 9223372036854775807) ∧
                     (0 ≤ IntKind.i64.wrap (IntKind.u64.wrap (a.tdiv 4294967296)) ∧
                         IntKind.i64.wrap (IntKind.u64.wrap (a.tdiv 4294967296)) < 4294967296) ∧
                       p / 4294967296 = p / 4294967296 ∧ IntKind.i64.wrap (p / 4294967296 - 1) = p / 4294967296 - 1) then
               bif
                   normB (digits (nearZ p (IntKind.i64.wrap (IntKind.u64.wrap (a.tdiv 4294967296)))).natAbs).length
                       (digits (nearZ p (IntKind.i64.wrap (IntKind.u64.wrap (a.tdiv 4294967296)))).natAbs) &&
                     (digits (nearZ p (IntKind.i64.wrap (IntKind.u64.wrap (a.tdiv 4294967296)))).natAbs).length.ble
                       (digits (nearZ p (IntKind.i64.wrap (IntKind.u64.wrap (a.tdiv 4294967296)))).natAbs).length then
                 some
                   (Res.ret
                     (Value.tuple
                       (Array.mk
                         [Value.int IntKind.i64
                             (hold
                               (sgn (decide (nearZ p (IntKind.i64.wrap (IntKind.u64.wrap (a.tdiv 4294967296))) < 0))
                                 (numW
                                   (digits (nearZ p (IntKind.i64.wrap (IntKind.u64.wrap (a.tdiv 4294967296)))).natAbs).length
                                   (digits (nearZ p (IntKind.i64.wrap (IntKind.u64.wrap (a.tdiv 4294967296)))).natAbs)))),
                           Value.int IntKind.i64
                             (hold
                               (sgn
                                 (decide
                                   (-(-sgn
                                             (decide
                                               (sgn (decide (IntKind.i64.wrap (a.tmod 4294967296) < 0))
                                                     (numW (digits (IntKind.i64.wrap (a.tmod 4294967296)).natAbs).length
                                                       (digits (IntKind.i64.wrap (a.tmod 4294967296)).natAbs)) *
                                                   1000000000 <
                                                 0))
                                             (numW
                                               (digits
                                                   (sgn (decide (IntKind.i64.wrap (a.tmod 4294967296) < 0))
                                                         (numW (digits (IntKind.i64.wrap (a.tmod 4294967296)).natAbs).length
                                                           (digits (IntKind.i64.wrap (a.tmod 4294967296)).natAbs)) *
                                                       1000000000).natAbs).length
                                               (digits
                                                 (sgn (decide (IntKind.i64.wrap (a.tmod 4294967296) < 0))
                                                       (numW (digits (IntKind.i64.wrap (a.tmod 4294967296)).natAbs).length
                                                         (digits (IntKind.i64.wrap (a.tmod 4294967296)).natAbs)) *
                                                     1000000000).natAbs)) /
                                         4294967296) <
                                     0))
                                 (numW
                                   (digits
                                       (-(-sgn
                                                 (decide
                                                   (sgn (decide (IntKind.i64.wrap (a.tmod 4294967296) < 0))
                                                         (numW (digits (IntKind.i64.wrap (a.tmod 4294967296)).natAbs).length
                                                           (digits (IntKind.i64.wrap (a.tmod 4294967296)).natAbs)) *
                                                       1000000000 <
                                                     0))
                                                 (numW
                                                   (digits
                                                       (sgn (decide (IntKind.i64.wrap (a.tmod 4294967296) < 0))
                                                             (numW
                                                               (digits (IntKind.i64.wrap (a.tmod 4294967296)).natAbs).length
                                                               (digits (IntKind.i64.wrap (a.tmod 4294967296)).natAbs)) *
                                                           1000000000).natAbs).length
                                                   (digits
                                                     (sgn (decide (IntKind.i64.wrap (a.tmod 4294967296) < 0))
                                                           (numW
                                                             (digits (IntKind.i64.wrap (a.tmod 4294967296)).natAbs).length
                                                             (digits (IntKind.i64.wrap (a.tmod 4294967296)).natAbs)) *
                                                         1000000000).natAbs)) /
                                             4294967296)).natAbs).length
                                   (digits
                                     (-(-sgn
                                               (decide
                                                 (sgn (decide (IntKind.i64.wrap (a.tmod 4294967296) < 0))
                                                       (numW (digits (IntKind.i64.wrap (a.tmod 4294967296)).natAbs).length
                                                         (digits (IntKind.i64.wrap (a.tmod 4294967296)).natAbs)) *
                                                     1000000000 <
                                                   0))
                                               (numW
                                                 (digits
                                                     (sgn (decide (IntKind.i64.wrap (a.tmod 4294967296) < 0))
                                                           (numW
                                                             (digits (IntKind.i64.wrap (a.tmod 4294967296)).natAbs).length
                                                             (digits (IntKind.i64.wrap (a.tmod 4294967296)).natAbs)) *
                                                         1000000000).natAbs).length
                                                 (digits
                                                   (sgn (decide (IntKind.i64.wrap (a.tmod 4294967296) < 0))
                                                         (numW (digits (IntKind.i64.wrap (a.tmod 4294967296)).natAbs).length
                                                           (digits (IntKind.i64.wrap (a.tmod 4294967296)).natAbs)) *
                                                       1000000000).natAbs)) /
                                           4294967296)).natAbs))))]))
                     [])
               else none
             else none
         else none
       else none
     else none) := by kernel_rfl
--CFEND
end Go.Proofs.Ytfgehfnlkakioaa.VC
