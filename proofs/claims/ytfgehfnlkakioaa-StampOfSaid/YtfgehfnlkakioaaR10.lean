/- The document's numbers: Sub, Mul, Two, Down, Up, Quotient: closed forms. -/
import Derived.Test.YtfgehfnlkakioaaR9
namespace Go.Proofs.Ytfgehfnlkakioaa.VC
open Go Go.Proofs

noncomputable def S36 : Spec := mkS [(35, false, F35), (37, false, F37)]
theorem S36_ok : SpecOK Try.prog S36 := mkS_cons ok35 (mkS_cons ok37 (mkS_nil _))
--CF cf36 (s t : Bool) (n c m d n1 m1 : Nat) (xs ys : List Int) :: fnK Try.prog S36 noL Try.f36 [nA s 0 n c, nA t 1 m d] [wb n1 xs, wb m1 ys]
theorem cf36 (s t : Bool) (n c m d n1 m1 : Nat) (xs ys : List Int) : fnK Try.prog S36 noL Try.f36 [nA s 0 n c, nA t 1 m d] [wb n1 xs, wb m1 ys] =
    (bif wordsB m ys && m.ble m1 then
       bif
           normB n xs && normB (digits (numW m ys)).length ys && n.ble n1 && (digits (numW m ys)).length.ble m1 &&
               n.ble (OfNat.ofNat 400000) &&
             (digits (numW m ys)).length.ble (OfNat.ofNat 400000) then
         some
           (Res.ret
             (Value.agg
               (Array.mk
                 [Value.bool
                     (decide
                       (sgn s (numW n xs) + sgn (!t && decide (0 < numW m ys)) (numW (digits (numW m ys)).length ys) < 0)),
                   Value.slice (some (Addr.mk 2 0 none))
                     (digits
                         (sgn s (numW n xs) +
                             sgn (!t && decide (0 < numW m ys)) (numW (digits (numW m ys)).length ys)).natAbs).length
                     2]))
             [some (Blk.mk false 1 [Seg.ints IntKind.u64 n1 xs]), some (Blk.mk false 1 [Seg.ints IntKind.u64 m1 ys]),
               some
                 (Blk.mk true 1
                   [Seg.ints IntKind.u64
                       (digits
                           (sgn s (numW n xs) +
                               sgn (!t && decide (0 < numW m ys)) (numW (digits (numW m ys)).length ys)).natAbs).length
                       (digits
                         (sgn s (numW n xs) +
                             sgn (!t && decide (0 < numW m ys)) (numW (digits (numW m ys)).length ys)).natAbs)])])
       else none
     else none) := by kernel_rfl
--CFEND

noncomputable def S32 : Spec := mkS [(90, false, F90), (91, false, F91), (93, false, F93), (96, false, F96)]
theorem S32_ok : SpecOK Try.prog S32 := mkS_cons ok90 (mkS_cons ok91 (mkS_cons ok93 (mkS_cons ok96 (mkS_nil _))))
def live32 : List Nat := [2, 3, 4, 5, 6]
abbrev pt (id : Nat) : Value := .pointer (some ⟨id, 0, none⟩)
abbrev bx (s : Bool) (id n c : Nat) : Option Blk := some ⟨true, 2, [.vals [.bool s, .slice (some ⟨id, 0, none⟩) n c]]⟩
abbrev db (v : Nat) : Option Blk := ob (digits v).length (digits v)
abbrev dS (id v : Nat) : Value := sl id (digits v).length 1
--CF cf32r (s t : Bool) (n c m d n1 m1 v : Nat) (xs ys : List Int) (p : Int) (on : List Value → Heap → Out) (out : Exit → List Value → Heap → Out) :: roundK Try.prog S32 noL Try.f32.ntmps 2 (loopOf Try.f32 0) live32 [pt 2, pt 3, pt 4, dS 5 v, w63 p] [wb n1 xs, wb m1 ys, bx s 0 n c, bx t 1 m d, nb false, db v] on out
theorem cf32r (s t : Bool) (n c m d n1 m1 v : Nat) (xs ys : List Int) (p : Int) (on : List Value → Heap → Out) (out : Exit → List Value → Heap → Out) : roundK Try.prog S32 noL Try.f32.ntmps 2 (loopOf Try.f32 0) live32 [pt 2, pt 3, pt 4, dS 5 v, w63 p] [wb n1 xs, wb m1 ys, bx s 0 n c, bx t 1 m d, nb false, db v] on out =
    (bif decide (p ≥ 0) then
       bif normB (digits v).length (digits v) && (digits v).length.ble (digits v).length then
         bif normB m ys && m.ble m1 && decide (0 ≤ p) then
           bif decide (numW m ys / 2 ^ p.toNat % 2 = 1) then
             bif
                 normB (digits (2 * numW (digits v).length (digits v))).length
                         (digits (2 * numW (digits v).length (digits v))) &&
                       normB n xs &&
                     (digits (2 * numW (digits v).length (digits v))).length.ble
                       (digits (2 * numW (digits v).length (digits v))).length &&
                   n.ble n1 then
               on
                 [Value.pointer (some (Addr.mk 2 0 none)), Value.pointer (some (Addr.mk 3 0 none)),
                   Value.pointer (some (Addr.mk 4 0 none)),
                   Value.slice (some (Addr.mk 5 0 none))
                     (digits
                         (numW (digits (2 * numW (digits v).length (digits v))).length
                             (digits (2 * numW (digits v).length (digits v))) +
                           numW n xs)).length
                     1,
                   Value.int IntKind.i64 (IntKind.i64.wrap (p - 1))]
                 [some (Blk.mk false 1 [Seg.ints IntKind.u64 n1 xs]), some (Blk.mk false 1 [Seg.ints IntKind.u64 m1 ys]),
                   some (Blk.mk true 2 [Seg.vals [Value.bool s, Value.slice (some (Addr.mk 0 0 none)) n c]]),
                   some (Blk.mk true 2 [Seg.vals [Value.bool t, Value.slice (some (Addr.mk 1 0 none)) m d]]),
                   some (Blk.mk true 2 [Seg.vals [Value.bool false, Value.slice none 0 0]]),
                   some
                     (Blk.mk true 1
                       [Seg.ints IntKind.u64
                           (digits
                               (numW (digits (2 * numW (digits v).length (digits v))).length
                                   (digits (2 * numW (digits v).length (digits v))) +
                                 numW n xs)).length
                           (digits
                             (numW (digits (2 * numW (digits v).length (digits v))).length
                                 (digits (2 * numW (digits v).length (digits v))) +
                               numW n xs))])]
             else none
           else
             on
               [Value.pointer (some (Addr.mk 2 0 none)), Value.pointer (some (Addr.mk 3 0 none)),
                 Value.pointer (some (Addr.mk 4 0 none)),
                 Value.slice (some (Addr.mk 5 0 none)) (digits (2 * numW (digits v).length (digits v))).length 1,
                 Value.int IntKind.i64 (IntKind.i64.wrap (p - 1))]
               [some (Blk.mk false 1 [Seg.ints IntKind.u64 n1 xs]), some (Blk.mk false 1 [Seg.ints IntKind.u64 m1 ys]),
                 some (Blk.mk true 2 [Seg.vals [Value.bool s, Value.slice (some (Addr.mk 0 0 none)) n c]]),
                 some (Blk.mk true 2 [Seg.vals [Value.bool t, Value.slice (some (Addr.mk 1 0 none)) m d]]),
                 some (Blk.mk true 2 [Seg.vals [Value.bool false, Value.slice none 0 0]]),
                 some
                   (Blk.mk true 1
                     [Seg.ints IntKind.u64 (digits (2 * numW (digits v).length (digits v))).length
                         (digits (2 * numW (digits v).length (digits v)))])]
         else none
       else none
     else
       out (Exit.exit 0)
         [Value.pointer (some (Addr.mk 2 0 none)), Value.pointer (some (Addr.mk 3 0 none)),
           Value.pointer (some (Addr.mk 4 0 none)), Value.slice (some (Addr.mk 5 0 none)) (digits v).length 1,
           Value.int IntKind.i64 p]
         [some (Blk.mk false 1 [Seg.ints IntKind.u64 n1 xs]), some (Blk.mk false 1 [Seg.ints IntKind.u64 m1 ys]),
           some (Blk.mk true 2 [Seg.vals [Value.bool s, Value.slice (some (Addr.mk 0 0 none)) n c]]),
           some (Blk.mk true 2 [Seg.vals [Value.bool t, Value.slice (some (Addr.mk 1 0 none)) m d]]),
           some (Blk.mk true 2 [Seg.vals [Value.bool false, Value.slice none 0 0]]),
           some (Blk.mk true 1 [Seg.ints IntKind.u64 (digits v).length (digits v)])]) := by kernel_rfl
--CFEND
noncomputable def L32f : LF := fun vs h k => match vs, h with
  | [.pointer (some ⟨2, 0, none⟩), .pointer (some ⟨3, 0, none⟩), .pointer (some ⟨4, 0, none⟩), .slice none 0 0, .int .i64 p], [some ⟨false, 1, [.ints .u64 n1 xs]⟩, some ⟨false, 1, [.ints .u64 m1 ys]⟩, some ⟨true, 2, [.vals [.bool s, .slice (some ⟨0, 0, none⟩) n c]]⟩, some ⟨true, 2, [.vals [.bool t, .slice (some ⟨1, 0, none⟩) m d]]⟩, some ⟨true, 2, [.vals [.bool false, .slice none 0 0]]⟩] =>
    bif normB n xs && normB m ys && Nat.ble n n1 && Nat.ble m m1 && Nat.ble n 400000 && Nat.ble m 400000 && (p == IntKind.i64.wrap (IntKind.i64.wrap (32 * (m : Int)) - 1)) then
      k (.exit 0) [pt 2, pt 3, pt 4, dS 5 (numW n xs * numW m ys), w63 (-1)] [wb n1 xs, wb m1 ys, bx s 0 n c, bx t 1 m d, nb false, db (numW n xs * numW m ys)]
    else none
  | _, _ => none
noncomputable def L32 : LSpec := oneL 3 live32 L32f
--CF cf32 (s t : Bool) (n c m d n1 m1 : Nat) (xs ys : List Int) :: fnK Try.prog S32 L32 Try.f32 [nA s 0 n c, nA t 1 m d] [wb n1 xs, wb m1 ys]
theorem cf32 (s t : Bool) (n c m d n1 m1 : Nat) (xs ys : List Int) : fnK Try.prog S32 L32 Try.f32 [nA s 0 n c, nA t 1 m d] [wb n1 xs, wb m1 ys] =
    (bif
         normB n xs && normB m ys && n.ble n1 && m.ble m1 && n.ble (OfNat.ofNat 400000) && m.ble (OfNat.ofNat 400000) &&
           IntKind.i64.wrap (IntKind.i64.wrap (32 * (↑m : Int)) - 1) ==
             IntKind.i64.wrap (IntKind.i64.wrap (32 * (↑m : Int)) - 1) then
       bif
           wordsB (digits (numW n xs * numW m ys)).length (digits (numW n xs * numW m ys)) &&
             (digits (numW n xs * numW m ys)).length.ble (digits (numW n xs * numW m ys)).length then
         some
           (Res.ret
             (Value.agg
               (Array.mk
                 [Value.bool
                     (!s == t && decide (0 < numW (digits (numW n xs * numW m ys)).length (digits (numW n xs * numW m ys)))),
                   Value.slice (some (Addr.mk 2 0 none))
                     (digits (numW (digits (numW n xs * numW m ys)).length (digits (numW n xs * numW m ys)))).length 2]))
             [some (Blk.mk false 1 [Seg.ints IntKind.u64 n1 xs]), some (Blk.mk false 1 [Seg.ints IntKind.u64 m1 ys]),
               some
                 (Blk.mk true 1
                   [Seg.ints IntKind.u64 (digits (numW n xs * numW m ys)).length (digits (numW n xs * numW m ys))])])
       else none
     else none) := by kernel_rfl
--CFEND

def live27 : List Nat := [0, 2, 3]
--CF cf27r (c v : Nat) (p : Int) (on : List Value → Heap → Out) (out : Exit → List Value → Heap → Out) :: roundK Try.prog S32 noL Try.f27.ntmps 0 (loopOf Try.f27 0) live27 [w64 p, pt 0, sl 1 (digits v).length c] [nb false, db v] on out
theorem cf27r (c v : Nat) (p : Int) (on : List Value → Heap → Out) (out : Exit → List Value → Heap → Out) : roundK Try.prog S32 noL Try.f27.ntmps 0 (loopOf Try.f27 0) live27 [w64 p, pt 0, sl 1 (digits v).length c] [nb false, db v] on out =
    (bif decide (p > 0) then
       bif normB (digits v).length (digits v) && (digits v).length.ble (digits v).length then
         on
           [Value.int IntKind.u64 (IntKind.u64.wrap (p - 1)), Value.pointer (some (Addr.mk 0 0 none)),
             Value.slice (some (Addr.mk 1 0 none)) (digits (2 * numW (digits v).length (digits v))).length 1]
           [some (Blk.mk true 2 [Seg.vals [Value.bool false, Value.slice none 0 0]]),
             some
               (Blk.mk true 1
                 [Seg.ints IntKind.u64 (digits (2 * numW (digits v).length (digits v))).length
                     (digits (2 * numW (digits v).length (digits v)))])]
       else none
     else
       out (Exit.exit 0)
         [Value.int IntKind.u64 p, Value.pointer (some (Addr.mk 0 0 none)),
           Value.slice (some (Addr.mk 1 0 none)) (digits v).length c]
         [some (Blk.mk true 2 [Seg.vals [Value.bool false, Value.slice none 0 0]]),
           some (Blk.mk true 1 [Seg.ints IntKind.u64 (digits v).length (digits v)])]) := by kernel_rfl
--CFEND
noncomputable def isOne (xs : List Int) : Bool := chk (xs = [1])
noncomputable def L27f : LF := fun vs h k => match vs, h with
  | [.int .u64 p, .pointer (some ⟨0, 0, none⟩), .slice (some ⟨1, 0, none⟩) n _], [some ⟨true, 2, [.vals [.bool false, .slice none 0 0]]⟩, some ⟨true, 1, [.ints .u64 n1 xs]⟩] =>
    bif decide (0 ≤ p) && decide (p ≤ 1000) && Nat.beq n 1 && Nat.beq n1 1 && isOne xs then
      k (.exit 0) [w64 0, pt 0, sl 1 (digits (2 ^ p.toNat)).length 2] [nb false, db (2 ^ p.toNat)]
    else none
  | _, _ => none
noncomputable def L27 : LSpec := oneL 2 live27 L27f
--CF cf27 (p : Int) :: fnK Try.prog S32 L27 Try.f27 [w64 p] []
theorem cf27 (p : Int) : fnK Try.prog S32 L27 Try.f27 [w64 p] [] =
    (bif decide (0 ≤ p) && decide (p ≤ 1000) && true && true && isOne [1] then
       some
         (Res.ret
           (Value.agg (Array.mk [Value.bool false, Value.slice (some (Addr.mk 0 0 none)) (digits (2 ^ p.toNat)).length 2]))
           [some (Blk.mk true 1 [Seg.ints IntKind.u64 (digits (2 ^ p.toNat)).length (digits (2 ^ p.toNat))])])
     else none) := by kernel_rfl
--CFEND

noncomputable def S28a : Spec := mkS [(90, false, F90), (91, false, F91), (92, false, F92), (93, false, F93), (94, false, F94)]
theorem S28a_ok : SpecOK Try.prog S28a := mkS_cons ok90 (mkS_cons ok91 (mkS_cons ok92 (mkS_cons ok93 (mkS_cons ok94 (mkS_nil _)))))
def live28 : List Nat := [2, 3, 4, 5, 6, 7, 8]
--CF cf28r (s t : Bool) (n c m d n1 m1 v l e l1 : Nat) (xs ys zs : List Int) (p : Int) (on : List Value → Heap → Out) (out : Exit → List Value → Heap → Out) :: roundK Try.prog S28a noL Try.f28.ntmps 2 (loopOf Try.f28 0) live28 [pt 2, pt 3, pt 4, pt 5, dS 6 v, sl 7 l e, w63 p] [wb n1 xs, wb m1 ys, bx s 0 n c, bx t 1 m d, nb false, nb false, db v, ob l1 zs] on out
theorem cf28r (s t : Bool) (n c m d n1 m1 v l e l1 : Nat) (xs ys zs : List Int) (p : Int) (on : List Value → Heap → Out) (out : Exit → List Value → Heap → Out) : roundK Try.prog S28a noL Try.f28.ntmps 2 (loopOf Try.f28 0) live28 [pt 2, pt 3, pt 4, pt 5, dS 6 v, sl 7 l e, w63 p] [wb n1 xs, wb m1 ys, bx s 0 n c, bx t 1 m d, nb false, nb false, db v, ob l1 zs] on out =
    (bif decide (p ≥ 0) then
       bif normB n xs && n.ble n1 && decide (0 ≤ p) then
         bif normB l zs && l.ble l1 then
           bif
               normB (digits (2 * numW l zs + bN (decide (numW n xs / 2 ^ p.toNat % 2 = 1)))).length
                       (digits (2 * numW l zs + bN (decide (numW n xs / 2 ^ p.toNat % 2 = 1)))) &&
                     normB m ys &&
                   (digits (2 * numW l zs + bN (decide (numW n xs / 2 ^ p.toNat % 2 = 1)))).length.ble
                     (digits (2 * numW l zs + bN (decide (numW n xs / 2 ^ p.toNat % 2 = 1)))).length &&
                 m.ble m1 then
             bif
                 decide
                   (cmpI
                       (numW (digits (2 * numW l zs + bN (decide (numW n xs / 2 ^ p.toNat % 2 = 1)))).length
                         (digits (2 * numW l zs + bN (decide (numW n xs / 2 ^ p.toNat % 2 = 1)))))
                       (numW m ys) ≥
                     0) then
               bif
                   normB (digits (2 * numW l zs + bN (decide (numW n xs / 2 ^ p.toNat % 2 = 1)))).length
                             (digits (2 * numW l zs + bN (decide (numW n xs / 2 ^ p.toNat % 2 = 1)))) &&
                           normB m ys &&
                         (digits (2 * numW l zs + bN (decide (numW n xs / 2 ^ p.toNat % 2 = 1)))).length.ble
                           (digits (2 * numW l zs + bN (decide (numW n xs / 2 ^ p.toNat % 2 = 1)))).length &&
                       m.ble m1 &&
                     (numW m ys).ble
                       (numW (digits (2 * numW l zs + bN (decide (numW n xs / 2 ^ p.toNat % 2 = 1)))).length
                         (digits (2 * numW l zs + bN (decide (numW n xs / 2 ^ p.toNat % 2 = 1))))) then
                 bif
                     wordsB (digits (2 * numW l zs + bN (decide (numW n xs / 2 ^ p.toNat % 2 = 1)))).length
                         (wordsN (digits (2 * numW l zs + bN (decide (numW n xs / 2 ^ p.toNat % 2 = 1)))).length
                           (numW (digits (2 * numW l zs + bN (decide (numW n xs / 2 ^ p.toNat % 2 = 1)))).length
                               (digits (2 * numW l zs + bN (decide (numW n xs / 2 ^ p.toNat % 2 = 1)))) -
                             numW m ys)) &&
                       (digits (2 * numW l zs + bN (decide (numW n xs / 2 ^ p.toNat % 2 = 1)))).length.ble
                         (digits (2 * numW l zs + bN (decide (numW n xs / 2 ^ p.toNat % 2 = 1)))).length then
                   bif normB (digits v).length (digits v) && (digits v).length.ble (digits v).length then
                     on
                       [Value.pointer (some (Addr.mk 2 0 none)), Value.pointer (some (Addr.mk 3 0 none)),
                         Value.pointer (some (Addr.mk 4 0 none)), Value.pointer (some (Addr.mk 5 0 none)),
                         Value.slice (some (Addr.mk 6 0 none))
                           (digits
                               (2 * numW (digits v).length (digits v) +
                                 bN
                                   (decide
                                     (cmpI
                                         (numW
                                           (digits (2 * numW l zs + bN (decide (numW n xs / 2 ^ p.toNat % 2 = 1)))).length
                                           (digits (2 * numW l zs + bN (decide (numW n xs / 2 ^ p.toNat % 2 = 1)))))
                                         (numW m ys) ≥
                                       0)))).length
                           1,
                         Value.slice (some (Addr.mk 7 0 none))
                           (digits
                               (numW (digits (2 * numW l zs + bN (decide (numW n xs / 2 ^ p.toNat % 2 = 1)))).length
                                 (wordsN (digits (2 * numW l zs + bN (decide (numW n xs / 2 ^ p.toNat % 2 = 1)))).length
                                   (numW (digits (2 * numW l zs + bN (decide (numW n xs / 2 ^ p.toNat % 2 = 1)))).length
                                       (digits (2 * numW l zs + bN (decide (numW n xs / 2 ^ p.toNat % 2 = 1)))) -
                                     numW m ys)))).length
                           2,
                         Value.int IntKind.i64 (IntKind.i64.wrap (p - 1))]
                       [some (Blk.mk false 1 [Seg.ints IntKind.u64 n1 xs]),
                         some (Blk.mk false 1 [Seg.ints IntKind.u64 m1 ys]),
                         some (Blk.mk true 2 [Seg.vals [Value.bool s, Value.slice (some (Addr.mk 0 0 none)) n c]]),
                         some (Blk.mk true 2 [Seg.vals [Value.bool t, Value.slice (some (Addr.mk 1 0 none)) m d]]),
                         some (Blk.mk true 2 [Seg.vals [Value.bool false, Value.slice none 0 0]]),
                         some (Blk.mk true 2 [Seg.vals [Value.bool false, Value.slice none 0 0]]),
                         some
                           (Blk.mk true 1
                             [Seg.ints IntKind.u64
                                 (digits
                                     (2 * numW (digits v).length (digits v) +
                                       bN
                                         (decide
                                           (cmpI
                                               (numW
                                                 (digits
                                                     (2 * numW l zs + bN (decide (numW n xs / 2 ^ p.toNat % 2 = 1)))).length
                                                 (digits (2 * numW l zs + bN (decide (numW n xs / 2 ^ p.toNat % 2 = 1)))))
                                               (numW m ys) ≥
                                             0)))).length
                                 (digits
                                   (2 * numW (digits v).length (digits v) +
                                     bN
                                       (decide
                                         (cmpI
                                             (numW
                                               (digits
                                                   (2 * numW l zs + bN (decide (numW n xs / 2 ^ p.toNat % 2 = 1)))).length
                                               (digits (2 * numW l zs + bN (decide (numW n xs / 2 ^ p.toNat % 2 = 1)))))
                                             (numW m ys) ≥
                                           0))))]),
                         some
                           (Blk.mk true 1
                             [Seg.ints IntKind.u64
                                 (digits (2 * numW l zs + bN (decide (numW n xs / 2 ^ p.toNat % 2 = 1)))).length
                                 (wordsN (digits (2 * numW l zs + bN (decide (numW n xs / 2 ^ p.toNat % 2 = 1)))).length
                                   (numW (digits (2 * numW l zs + bN (decide (numW n xs / 2 ^ p.toNat % 2 = 1)))).length
                                       (digits (2 * numW l zs + bN (decide (numW n xs / 2 ^ p.toNat % 2 = 1)))) -
                                     numW m ys))])]
                   else none
                 else none
               else none
             else
               bif normB (digits v).length (digits v) && (digits v).length.ble (digits v).length then
                 on
                   [Value.pointer (some (Addr.mk 2 0 none)), Value.pointer (some (Addr.mk 3 0 none)),
                     Value.pointer (some (Addr.mk 4 0 none)), Value.pointer (some (Addr.mk 5 0 none)),
                     Value.slice (some (Addr.mk 6 0 none))
                       (digits
                           (2 * numW (digits v).length (digits v) +
                             bN
                               (decide
                                 (cmpI
                                     (numW (digits (2 * numW l zs + bN (decide (numW n xs / 2 ^ p.toNat % 2 = 1)))).length
                                       (digits (2 * numW l zs + bN (decide (numW n xs / 2 ^ p.toNat % 2 = 1)))))
                                     (numW m ys) ≥
                                   0)))).length
                       1,
                     Value.slice (some (Addr.mk 7 0 none))
                       (digits (2 * numW l zs + bN (decide (numW n xs / 2 ^ p.toNat % 2 = 1)))).length 1,
                     Value.int IntKind.i64 (IntKind.i64.wrap (p - 1))]
                   [some (Blk.mk false 1 [Seg.ints IntKind.u64 n1 xs]), some (Blk.mk false 1 [Seg.ints IntKind.u64 m1 ys]),
                     some (Blk.mk true 2 [Seg.vals [Value.bool s, Value.slice (some (Addr.mk 0 0 none)) n c]]),
                     some (Blk.mk true 2 [Seg.vals [Value.bool t, Value.slice (some (Addr.mk 1 0 none)) m d]]),
                     some (Blk.mk true 2 [Seg.vals [Value.bool false, Value.slice none 0 0]]),
                     some (Blk.mk true 2 [Seg.vals [Value.bool false, Value.slice none 0 0]]),
                     some
                       (Blk.mk true 1
                         [Seg.ints IntKind.u64
                             (digits
                                 (2 * numW (digits v).length (digits v) +
                                   bN
                                     (decide
                                       (cmpI
                                           (numW
                                             (digits (2 * numW l zs + bN (decide (numW n xs / 2 ^ p.toNat % 2 = 1)))).length
                                             (digits (2 * numW l zs + bN (decide (numW n xs / 2 ^ p.toNat % 2 = 1)))))
                                           (numW m ys) ≥
                                         0)))).length
                             (digits
                               (2 * numW (digits v).length (digits v) +
                                 bN
                                   (decide
                                     (cmpI
                                         (numW
                                           (digits (2 * numW l zs + bN (decide (numW n xs / 2 ^ p.toNat % 2 = 1)))).length
                                           (digits (2 * numW l zs + bN (decide (numW n xs / 2 ^ p.toNat % 2 = 1)))))
                                         (numW m ys) ≥
                                       0))))]),
                     some
                       (Blk.mk true 1
                         [Seg.ints IntKind.u64
                             (digits (2 * numW l zs + bN (decide (numW n xs / 2 ^ p.toNat % 2 = 1)))).length
                             (digits (2 * numW l zs + bN (decide (numW n xs / 2 ^ p.toNat % 2 = 1))))])]
               else none
           else none
         else none
       else none
     else
       out (Exit.exit 0)
         [Value.pointer (some (Addr.mk 2 0 none)), Value.pointer (some (Addr.mk 3 0 none)),
           Value.pointer (some (Addr.mk 4 0 none)), Value.pointer (some (Addr.mk 5 0 none)),
           Value.slice (some (Addr.mk 6 0 none)) (digits v).length 1, Value.slice (some (Addr.mk 7 0 none)) l e,
           Value.int IntKind.i64 p]
         [some (Blk.mk false 1 [Seg.ints IntKind.u64 n1 xs]), some (Blk.mk false 1 [Seg.ints IntKind.u64 m1 ys]),
           some (Blk.mk true 2 [Seg.vals [Value.bool s, Value.slice (some (Addr.mk 0 0 none)) n c]]),
           some (Blk.mk true 2 [Seg.vals [Value.bool t, Value.slice (some (Addr.mk 1 0 none)) m d]]),
           some (Blk.mk true 2 [Seg.vals [Value.bool false, Value.slice none 0 0]]),
           some (Blk.mk true 2 [Seg.vals [Value.bool false, Value.slice none 0 0]]),
           some (Blk.mk true 1 [Seg.ints IntKind.u64 (digits v).length (digits v)]),
           some (Blk.mk true 1 [Seg.ints IntKind.u64 l1 zs])]) := by kernel_rfl
--CFEND

noncomputable def L28f : LF := fun vs h k => match vs, h with
  | [.pointer (some ⟨2, 0, none⟩), .pointer (some ⟨3, 0, none⟩), .pointer (some ⟨4, 0, none⟩), .pointer (some ⟨5, 0, none⟩), .slice none 0 0, .slice none 0 0, .int .i64 p], [some ⟨false, 1, [.ints .u64 n1 xs]⟩, some ⟨false, 1, [.ints .u64 m1 ys]⟩, some ⟨true, 2, [.vals [.bool s, .slice (some ⟨0, 0, none⟩) n c]]⟩, some ⟨true, 2, [.vals [.bool t, .slice (some ⟨1, 0, none⟩) m d]]⟩, some ⟨true, 2, [.vals [.bool false, .slice none 0 0]]⟩, some ⟨true, 2, [.vals [.bool false, .slice none 0 0]]⟩] =>
    bif normB n xs && normB m ys && Nat.ble n n1 && Nat.ble m m1 && Nat.ble n 400000 && Nat.ble m 399999 && Nat.blt 0 (numW m ys) && (p == IntKind.i64.wrap (IntKind.i64.wrap (32 * (n : Int)) - 1)) then
      k (.exit 0) [pt 2, pt 3, pt 4, pt 5, dS 6 (numW n xs / numW m ys), sl 7 (digits (numW n xs % numW m ys)).length 2, w63 (-1)] [wb n1 xs, wb m1 ys, bx s 0 n c, bx t 1 m d, nb false, nb false, db (numW n xs / numW m ys), db (numW n xs % numW m ys)]
    else none
  | _, _ => none
noncomputable def L28 : LSpec := oneL 3 live28 L28f

noncomputable def F36 : FSpec := fun args h k => match args, h with
  | [.agg ⟨[.bool s, .slice (some ⟨0, 0, none⟩) n _]⟩, .agg ⟨[.bool t, .slice (some ⟨1, 0, none⟩) m _]⟩], [some ⟨false, 1, [.ints .u64 n1 xs]⟩, some ⟨false, 1, [.ints .u64 m1 ys]⟩] =>
    bif normB n xs && normB m ys && Nat.ble n n1 && Nat.ble m m1 && Nat.ble n 400000 && Nat.ble m 400000 then
      k (zV 2 (sgn s (numW n xs) - sgn t (numW m ys))) [wb n1 xs, wb m1 ys, zB (sgn s (numW n xs) - sgn t (numW m ys))] else none
  | _, _ => none
noncomputable def F32 : FSpec := fun args h k => match args, h with
  | [.agg ⟨[.bool s, .slice (some ⟨0, 0, none⟩) n _]⟩, .agg ⟨[.bool t, .slice (some ⟨1, 0, none⟩) m _]⟩], [some ⟨false, 1, [.ints .u64 n1 xs]⟩, some ⟨false, 1, [.ints .u64 m1 ys]⟩] =>
    bif normB n xs && normB m ys && Nat.ble n n1 && Nat.ble m m1 && Nat.ble n 400000 && Nat.ble m 400000 then
      k (zV 2 (sgn s (numW n xs) * sgn t (numW m ys))) [wb n1 xs, wb m1 ys, zB (sgn s (numW n xs) * sgn t (numW m ys))] else none
  | _, _ => none
noncomputable def F27 : FSpec := fun args h k => match args, h with
  | [.int .u64 p], [] => bif decide (0 ≤ p) && decide (p ≤ 1000) then k (.agg ⟨[.bool false, .slice (some ⟨0, 0, none⟩) (digits (2 ^ p.toNat)).length 2]⟩) [db (2 ^ p.toNat)] else none
  | _, _ => none
noncomputable def F28 : FSpec := fun args h k => match args, h with
  | [.agg ⟨[.bool s, .slice (some ⟨0, 0, none⟩) n _]⟩, .agg ⟨[.bool t, .slice (some ⟨1, 0, none⟩) m _]⟩], [some ⟨false, 1, [.ints .u64 n1 xs]⟩, some ⟨false, 1, [.ints .u64 m1 ys]⟩] =>
    bif normB n xs && normB m ys && Nat.ble n n1 && Nat.ble m m1 && Nat.ble n 399999 && Nat.ble m 399999 && Nat.blt 0 (numW m ys) && !t then
      k (.tuple ⟨[zV 2 (sgn s (numW n xs) / (numW m ys : Int)), zV 3 (sgn s (numW n xs) % (numW m ys : Int))]⟩) [wb n1 xs, wb m1 ys, zB (sgn s (numW n xs) / (numW m ys : Int)), zB (sgn s (numW n xs) % (numW m ys : Int))] else none
  | _, _ => none
noncomputable def F86 : FSpec := fun args h k => match args, h with
  | [.agg ⟨[.bool s, .slice (some ⟨0, 0, none⟩) n _]⟩, .agg ⟨[.bool t, .slice (some ⟨1, 0, none⟩) m _]⟩], [some ⟨false, 1, [.ints .u64 n1 xs]⟩, some ⟨false, 1, [.ints .u64 m1 ys]⟩] =>
    bif normB n xs && normB m ys && Nat.ble n n1 && Nat.ble m m1 && Nat.ble n 399999 && Nat.ble m 399999 && Nat.blt 0 (numW m ys) && !t then
      k (zV 2 (-(-sgn s (numW n xs) / (numW m ys : Int)))) [wb n1 xs, wb m1 ys, zB (-(-sgn s (numW n xs) / (numW m ys : Int)))] else none
  | _, _ => none
noncomputable def S28 : Spec := mkS [(29, false, F29), (36, false, F36), (93, false, F93)]
--CF cf28 (s t : Bool) (n c m d n1 m1 : Nat) (xs ys : List Int) :: fnK Try.prog S28 L28 Try.f28 [nA s 0 n c, nA t 1 m d] [wb n1 xs, wb m1 ys]
theorem cf28 (s t : Bool) (n c m d n1 m1 : Nat) (xs ys : List Int) : fnK Try.prog S28 L28 Try.f28 [nA s 0 n c, nA t 1 m d] [wb n1 xs, wb m1 ys] =
    (bif
         normB n xs && normB m ys && n.ble n1 && m.ble m1 && n.ble (OfNat.ofNat 400000) && m.ble (OfNat.ofNat 399999) &&
             Nat.blt 0 (numW m ys) &&
           IntKind.i64.wrap (IntKind.i64.wrap (32 * (↑n : Int)) - 1) ==
             IntKind.i64.wrap (IntKind.i64.wrap (32 * (↑n : Int)) - 1) then
       bif
           wordsB (digits (numW n xs / numW m ys)).length (digits (numW n xs / numW m ys)) &&
             (digits (numW n xs / numW m ys)).length.ble (digits (numW n xs / numW m ys)).length then
         bif
             wordsB (digits (numW n xs % numW m ys)).length (digits (numW n xs % numW m ys)) &&
               (digits (numW n xs % numW m ys)).length.ble (digits (numW n xs % numW m ys)).length then
           bif s then
             bif
                 decide
                   ((↑(digits (numW (digits (numW n xs % numW m ys)).length (digits (numW n xs % numW m ys)))).length :
                       Int) >
                     0) then
               bif
                   normB (digits (numW (digits (numW n xs / numW m ys)).length (digits (numW n xs / numW m ys)))).length
                               (digits (numW n xs / numW m ys)) &&
                             normB 1 (digits 1) &&
                           (digits
                                   (numW (digits (numW n xs / numW m ys)).length
                                     (digits (numW n xs / numW m ys)))).length.ble
                             (digits (numW n xs / numW m ys)).length &&
                         true &&
                       (digits (numW (digits (numW n xs / numW m ys)).length (digits (numW n xs / numW m ys)))).length.ble
                         (OfNat.ofNat 400000) &&
                     true then
                 bif
                     normB m ys &&
                               normB
                                 (digits
                                     (numW (digits (numW n xs % numW m ys)).length (digits (numW n xs % numW m ys)))).length
                                 (digits (numW n xs % numW m ys)) &&
                             m.ble m1 &&
                           (digits
                                   (numW (digits (numW n xs % numW m ys)).length
                                     (digits (numW n xs % numW m ys)))).length.ble
                             (digits (numW n xs % numW m ys)).length &&
                         m.ble (OfNat.ofNat 400000) &&
                       (digits (numW (digits (numW n xs % numW m ys)).length (digits (numW n xs % numW m ys)))).length.ble
                         (OfNat.ofNat 400000) then
                   some
                     (Res.ret
                       (Value.tuple
                         (Array.mk
                           [Value.agg
                               (Array.mk
                                 [Value.bool
                                     (decide
                                       (sgn
                                             (s &&
                                               decide
                                                 (0 <
                                                   numW (digits (numW n xs / numW m ys)).length
                                                     (digits (numW n xs / numW m ys))))
                                             (numW
                                               (digits
                                                   (numW (digits (numW n xs / numW m ys)).length
                                                     (digits (numW n xs / numW m ys)))).length
                                               (digits (numW n xs / numW m ys))) -
                                           1 <
                                         0)),
                                   Value.slice (some (Addr.mk 2 0 none))
                                     (digits
                                         (sgn
                                               (s &&
                                                 decide
                                                   (0 <
                                                     numW (digits (numW n xs / numW m ys)).length
                                                       (digits (numW n xs / numW m ys))))
                                               (numW
                                                 (digits
                                                     (numW (digits (numW n xs / numW m ys)).length
                                                       (digits (numW n xs / numW m ys)))).length
                                                 (digits (numW n xs / numW m ys))) -
                                             1).natAbs).length
                                     2]),
                             Value.agg
                               (Array.mk
                                 [Value.bool
                                     (decide
                                       (sgn t (numW m ys) -
                                           sgn false
                                             (numW
                                               (digits
                                                   (numW (digits (numW n xs % numW m ys)).length
                                                     (digits (numW n xs % numW m ys)))).length
                                               (digits (numW n xs % numW m ys))) <
                                         0)),
                                   Value.slice (some (Addr.mk 3 0 none))
                                     (digits
                                         (sgn t (numW m ys) -
                                             sgn false
                                               (numW
                                                 (digits
                                                     (numW (digits (numW n xs % numW m ys)).length
                                                       (digits (numW n xs % numW m ys)))).length
                                                 (digits (numW n xs % numW m ys)))).natAbs).length
                                     2])]))
                       [some (Blk.mk false 1 [Seg.ints IntKind.u64 n1 xs]),
                         some (Blk.mk false 1 [Seg.ints IntKind.u64 m1 ys]),
                         some
                           (Blk.mk true 1
                             [Seg.ints IntKind.u64
                                 (digits
                                     (sgn
                                           (s &&
                                             decide
                                               (0 <
                                                 numW (digits (numW n xs / numW m ys)).length
                                                   (digits (numW n xs / numW m ys))))
                                           (numW
                                             (digits
                                                 (numW (digits (numW n xs / numW m ys)).length
                                                   (digits (numW n xs / numW m ys)))).length
                                             (digits (numW n xs / numW m ys))) -
                                         1).natAbs).length
                                 (digits
                                   (sgn
                                         (s &&
                                           decide
                                             (0 <
                                               numW (digits (numW n xs / numW m ys)).length
                                                 (digits (numW n xs / numW m ys))))
                                         (numW
                                           (digits
                                               (numW (digits (numW n xs / numW m ys)).length
                                                 (digits (numW n xs / numW m ys)))).length
                                           (digits (numW n xs / numW m ys))) -
                                       1).natAbs)]),
                         some
                           (Blk.mk true 1
                             [Seg.ints IntKind.u64
                                 (digits
                                     (sgn t (numW m ys) -
                                         sgn false
                                           (numW
                                             (digits
                                                 (numW (digits (numW n xs % numW m ys)).length
                                                   (digits (numW n xs % numW m ys)))).length
                                             (digits (numW n xs % numW m ys)))).natAbs).length
                                 (digits
                                   (sgn t (numW m ys) -
                                       sgn false
                                         (numW
                                           (digits
                                               (numW (digits (numW n xs % numW m ys)).length
                                                 (digits (numW n xs % numW m ys)))).length
                                           (digits (numW n xs % numW m ys)))).natAbs)])])
                 else none
               else none
             else
               some
                 (Res.ret
                   (Value.tuple
                     (Array.mk
                       [Value.agg
                           (Array.mk
                             [Value.bool
                                 (s &&
                                   decide
                                     (0 < numW (digits (numW n xs / numW m ys)).length (digits (numW n xs / numW m ys)))),
                               Value.slice (some (Addr.mk 2 0 none))
                                 (digits
                                     (numW (digits (numW n xs / numW m ys)).length (digits (numW n xs / numW m ys)))).length
                                 2]),
                         Value.agg
                           (Array.mk
                             [Value.bool false,
                               Value.slice (some (Addr.mk 3 0 none))
                                 (digits
                                     (numW (digits (numW n xs % numW m ys)).length (digits (numW n xs % numW m ys)))).length
                                 2])]))
                   [some (Blk.mk false 1 [Seg.ints IntKind.u64 n1 xs]), some (Blk.mk false 1 [Seg.ints IntKind.u64 m1 ys]),
                     some
                       (Blk.mk true 1
                         [Seg.ints IntKind.u64 (digits (numW n xs / numW m ys)).length (digits (numW n xs / numW m ys))]),
                     some
                       (Blk.mk true 1
                         [Seg.ints IntKind.u64 (digits (numW n xs % numW m ys)).length (digits (numW n xs % numW m ys))])])
           else
             some
               (Res.ret
                 (Value.tuple
                   (Array.mk
                     [Value.agg
                         (Array.mk
                           [Value.bool
                               (s &&
                                 decide (0 < numW (digits (numW n xs / numW m ys)).length (digits (numW n xs / numW m ys)))),
                             Value.slice (some (Addr.mk 2 0 none))
                               (digits
                                   (numW (digits (numW n xs / numW m ys)).length (digits (numW n xs / numW m ys)))).length
                               2]),
                       Value.agg
                         (Array.mk
                           [Value.bool false,
                             Value.slice (some (Addr.mk 3 0 none))
                               (digits
                                   (numW (digits (numW n xs % numW m ys)).length (digits (numW n xs % numW m ys)))).length
                               2])]))
                 [some (Blk.mk false 1 [Seg.ints IntKind.u64 n1 xs]), some (Blk.mk false 1 [Seg.ints IntKind.u64 m1 ys]),
                   some
                     (Blk.mk true 1
                       [Seg.ints IntKind.u64 (digits (numW n xs / numW m ys)).length (digits (numW n xs / numW m ys))]),
                   some
                     (Blk.mk true 1
                       [Seg.ints IntKind.u64 (digits (numW n xs % numW m ys)).length (digits (numW n xs % numW m ys))])])
         else none
       else none
     else none) := by kernel_rfl
--CFEND
noncomputable def S86 : Spec := mkS [(28, false, F28), (37, false, F37)]
--CF cf86 (s t : Bool) (n c m d n1 m1 : Nat) (xs ys : List Int) :: fnK Try.prog S86 noL Try.f86 [nA s 0 n c, nA t 1 m d] [wb n1 xs, wb m1 ys]
theorem cf86 (s t : Bool) (n c m d n1 m1 : Nat) (xs ys : List Int) : fnK Try.prog S86 noL Try.f86 [nA s 0 n c, nA t 1 m d] [wb n1 xs, wb m1 ys] =
    (bif wordsB n xs && n.ble n1 then
       bif
           normB (digits (numW n xs)).length xs && normB m ys && (digits (numW n xs)).length.ble n1 && m.ble m1 &&
                   (digits (numW n xs)).length.ble (OfNat.ofNat 399999) &&
                 m.ble (OfNat.ofNat 399999) &&
               Nat.blt 0 (numW m ys) &&
             !t then
         bif
             wordsB
                 (digits
                     (sgn (!s && decide (0 < numW n xs)) (numW (digits (numW n xs)).length xs) /
                         (↑(numW m ys) : Int)).natAbs).length
                 (digits
                   (sgn (!s && decide (0 < numW n xs)) (numW (digits (numW n xs)).length xs) /
                       (↑(numW m ys) : Int)).natAbs) &&
               (digits
                       (sgn (!s && decide (0 < numW n xs)) (numW (digits (numW n xs)).length xs) /
                           (↑(numW m ys) : Int)).natAbs).length.ble
                 (digits
                     (sgn (!s && decide (0 < numW n xs)) (numW (digits (numW n xs)).length xs) /
                         (↑(numW m ys) : Int)).natAbs).length then
           some
             (Res.ret
               (Value.agg
                 (Array.mk
                   [Value.bool
                       (!decide
                             (sgn (!s && decide (0 < numW n xs)) (numW (digits (numW n xs)).length xs) /
                                 (↑(numW m ys) : Int) <
                               0) &&
                         decide
                           (0 <
                             numW
                               (digits
                                   (sgn (!s && decide (0 < numW n xs)) (numW (digits (numW n xs)).length xs) /
                                       (↑(numW m ys) : Int)).natAbs).length
                               (digits
                                 (sgn (!s && decide (0 < numW n xs)) (numW (digits (numW n xs)).length xs) /
                                     (↑(numW m ys) : Int)).natAbs))),
                     Value.slice (some (Addr.mk 2 0 none))
                       (digits
                           (numW
                             (digits
                                 (sgn (!s && decide (0 < numW n xs)) (numW (digits (numW n xs)).length xs) /
                                     (↑(numW m ys) : Int)).natAbs).length
                             (digits
                               (sgn (!s && decide (0 < numW n xs)) (numW (digits (numW n xs)).length xs) /
                                   (↑(numW m ys) : Int)).natAbs))).length
                       2]))
               [some (Blk.mk false 1 [Seg.ints IntKind.u64 n1 xs]), some (Blk.mk false 1 [Seg.ints IntKind.u64 m1 ys]),
                 some
                   (Blk.mk true 1
                     [Seg.ints IntKind.u64
                         (digits
                             (sgn (!s && decide (0 < numW n xs)) (numW (digits (numW n xs)).length xs) /
                                 (↑(numW m ys) : Int)).natAbs).length
                         (digits
                           (sgn (!s && decide (0 < numW n xs)) (numW (digits (numW n xs)).length xs) /
                               (↑(numW m ys) : Int)).natAbs)])])
         else none
       else none
     else none) := by kernel_rfl
--CFEND
noncomputable def S20 : Spec := mkS [(28, false, F28), (29, false, F29), (31, false, F31), (32, false, F32), (86, false, F86)]
--CF cf20 (a b d : Int) (v : Bool) :: fnK Try.prog S20 noL Try.f20 [w63 a, w63 b, w63 d, .bool v] []
theorem cf20 (a b d : Int) (v : Bool) : fnK Try.prog S20 noL Try.f20 [w63 a, w63 b, w63 d, .bool v] [] =
    (bif decide (d ≤ 0) then some (Res.ret (Value.int IntKind.i64 0) [])
     else
       bif
           normB (digits a.natAbs).length (digits a.natAbs) && normB (digits b.natAbs).length (digits b.natAbs) &&
                   (digits a.natAbs).length.ble (digits a.natAbs).length &&
                 (digits b.natAbs).length.ble (digits b.natAbs).length &&
               (digits a.natAbs).length.ble (OfNat.ofNat 400000) &&
             (digits b.natAbs).length.ble (OfNat.ofNat 400000) then
         bif v then
           bif
               normB
                               (digits
                                   (sgn (decide (a < 0)) (numW (digits a.natAbs).length (digits a.natAbs)) *
                                       sgn (decide (b < 0)) (numW (digits b.natAbs).length (digits b.natAbs))).natAbs).length
                               (digits
                                 (sgn (decide (a < 0)) (numW (digits a.natAbs).length (digits a.natAbs)) *
                                     sgn (decide (b < 0)) (numW (digits b.natAbs).length (digits b.natAbs))).natAbs) &&
                             normB (digits d.natAbs).length (digits d.natAbs) &&
                           (digits
                                   (sgn (decide (a < 0)) (numW (digits a.natAbs).length (digits a.natAbs)) *
                                       sgn (decide (b < 0))
                                         (numW (digits b.natAbs).length (digits b.natAbs))).natAbs).length.ble
                             (digits
                                 (sgn (decide (a < 0)) (numW (digits a.natAbs).length (digits a.natAbs)) *
                                     sgn (decide (b < 0))
                                       (numW (digits b.natAbs).length (digits b.natAbs))).natAbs).length &&
                         (digits d.natAbs).length.ble (digits d.natAbs).length &&
                       (digits
                               (sgn (decide (a < 0)) (numW (digits a.natAbs).length (digits a.natAbs)) *
                                   sgn (decide (b < 0)) (numW (digits b.natAbs).length (digits b.natAbs))).natAbs).length.ble
                         (OfNat.ofNat 399999) &&
                     (digits d.natAbs).length.ble (OfNat.ofNat 399999) &&
                   Nat.blt 0 (numW (digits d.natAbs).length (digits d.natAbs)) &&
                 !decide (d < 0) then
             bif
                 normB
                     (digits
                         (-(-sgn
                                   (decide
                                     (sgn (decide (a < 0)) (numW (digits a.natAbs).length (digits a.natAbs)) *
                                         sgn (decide (b < 0)) (numW (digits b.natAbs).length (digits b.natAbs)) <
                                       0))
                                   (numW
                                     (digits
                                         (sgn (decide (a < 0)) (numW (digits a.natAbs).length (digits a.natAbs)) *
                                             sgn (decide (b < 0))
                                               (numW (digits b.natAbs).length (digits b.natAbs))).natAbs).length
                                     (digits
                                       (sgn (decide (a < 0)) (numW (digits a.natAbs).length (digits a.natAbs)) *
                                           sgn (decide (b < 0)) (numW (digits b.natAbs).length (digits b.natAbs))).natAbs)) /
                               (↑(numW (digits d.natAbs).length (digits d.natAbs)) : Int))).natAbs).length
                     (digits
                       (-(-sgn
                                 (decide
                                   (sgn (decide (a < 0)) (numW (digits a.natAbs).length (digits a.natAbs)) *
                                       sgn (decide (b < 0)) (numW (digits b.natAbs).length (digits b.natAbs)) <
                                     0))
                                 (numW
                                   (digits
                                       (sgn (decide (a < 0)) (numW (digits a.natAbs).length (digits a.natAbs)) *
                                           sgn (decide (b < 0))
                                             (numW (digits b.natAbs).length (digits b.natAbs))).natAbs).length
                                   (digits
                                     (sgn (decide (a < 0)) (numW (digits a.natAbs).length (digits a.natAbs)) *
                                         sgn (decide (b < 0)) (numW (digits b.natAbs).length (digits b.natAbs))).natAbs)) /
                             (↑(numW (digits d.natAbs).length (digits d.natAbs)) : Int))).natAbs) &&
                   (digits
                           (-(-sgn
                                     (decide
                                       (sgn (decide (a < 0)) (numW (digits a.natAbs).length (digits a.natAbs)) *
                                           sgn (decide (b < 0)) (numW (digits b.natAbs).length (digits b.natAbs)) <
                                         0))
                                     (numW
                                       (digits
                                           (sgn (decide (a < 0)) (numW (digits a.natAbs).length (digits a.natAbs)) *
                                               sgn (decide (b < 0))
                                                 (numW (digits b.natAbs).length (digits b.natAbs))).natAbs).length
                                       (digits
                                         (sgn (decide (a < 0)) (numW (digits a.natAbs).length (digits a.natAbs)) *
                                             sgn (decide (b < 0))
                                               (numW (digits b.natAbs).length (digits b.natAbs))).natAbs)) /
                                 (↑(numW (digits d.natAbs).length (digits d.natAbs)) : Int))).natAbs).length.ble
                     (digits
                         (-(-sgn
                                   (decide
                                     (sgn (decide (a < 0)) (numW (digits a.natAbs).length (digits a.natAbs)) *
                                         sgn (decide (b < 0)) (numW (digits b.natAbs).length (digits b.natAbs)) <
                                       0))
                                   (numW
                                     (digits
                                         (sgn (decide (a < 0)) (numW (digits a.natAbs).length (digits a.natAbs)) *
                                             sgn (decide (b < 0))
                                               (numW (digits b.natAbs).length (digits b.natAbs))).natAbs).length
                                     (digits
                                       (sgn (decide (a < 0)) (numW (digits a.natAbs).length (digits a.natAbs)) *
                                           sgn (decide (b < 0)) (numW (digits b.natAbs).length (digits b.natAbs))).natAbs)) /
                               (↑(numW (digits d.natAbs).length (digits d.natAbs)) : Int))).natAbs).length then
               some
                 (Res.ret
                   (Value.int IntKind.i64
                     (hold
                       (sgn
                         (decide
                           (-(-sgn
                                     (decide
                                       (sgn (decide (a < 0)) (numW (digits a.natAbs).length (digits a.natAbs)) *
                                           sgn (decide (b < 0)) (numW (digits b.natAbs).length (digits b.natAbs)) <
                                         0))
                                     (numW
                                       (digits
                                           (sgn (decide (a < 0)) (numW (digits a.natAbs).length (digits a.natAbs)) *
                                               sgn (decide (b < 0))
                                                 (numW (digits b.natAbs).length (digits b.natAbs))).natAbs).length
                                       (digits
                                         (sgn (decide (a < 0)) (numW (digits a.natAbs).length (digits a.natAbs)) *
                                             sgn (decide (b < 0))
                                               (numW (digits b.natAbs).length (digits b.natAbs))).natAbs)) /
                                 (↑(numW (digits d.natAbs).length (digits d.natAbs)) : Int)) <
                             0))
                         (numW
                           (digits
                               (-(-sgn
                                         (decide
                                           (sgn (decide (a < 0)) (numW (digits a.natAbs).length (digits a.natAbs)) *
                                               sgn (decide (b < 0)) (numW (digits b.natAbs).length (digits b.natAbs)) <
                                             0))
                                         (numW
                                           (digits
                                               (sgn (decide (a < 0)) (numW (digits a.natAbs).length (digits a.natAbs)) *
                                                   sgn (decide (b < 0))
                                                     (numW (digits b.natAbs).length (digits b.natAbs))).natAbs).length
                                           (digits
                                             (sgn (decide (a < 0)) (numW (digits a.natAbs).length (digits a.natAbs)) *
                                                 sgn (decide (b < 0))
                                                   (numW (digits b.natAbs).length (digits b.natAbs))).natAbs)) /
                                     (↑(numW (digits d.natAbs).length (digits d.natAbs)) : Int))).natAbs).length
                           (digits
                             (-(-sgn
                                       (decide
                                         (sgn (decide (a < 0)) (numW (digits a.natAbs).length (digits a.natAbs)) *
                                             sgn (decide (b < 0)) (numW (digits b.natAbs).length (digits b.natAbs)) <
                                           0))
                                       (numW
                                         (digits
                                             (sgn (decide (a < 0)) (numW (digits a.natAbs).length (digits a.natAbs)) *
                                                 sgn (decide (b < 0))
                                                   (numW (digits b.natAbs).length (digits b.natAbs))).natAbs).length
                                         (digits
                                           (sgn (decide (a < 0)) (numW (digits a.natAbs).length (digits a.natAbs)) *
                                               sgn (decide (b < 0))
                                                 (numW (digits b.natAbs).length (digits b.natAbs))).natAbs)) /
                                   (↑(numW (digits d.natAbs).length (digits d.natAbs)) : Int))).natAbs)))))
                   [])
             else none
           else none
         else
           bif
               normB
                               (digits
                                   (sgn (decide (a < 0)) (numW (digits a.natAbs).length (digits a.natAbs)) *
                                       sgn (decide (b < 0)) (numW (digits b.natAbs).length (digits b.natAbs))).natAbs).length
                               (digits
                                 (sgn (decide (a < 0)) (numW (digits a.natAbs).length (digits a.natAbs)) *
                                     sgn (decide (b < 0)) (numW (digits b.natAbs).length (digits b.natAbs))).natAbs) &&
                             normB (digits d.natAbs).length (digits d.natAbs) &&
                           (digits
                                   (sgn (decide (a < 0)) (numW (digits a.natAbs).length (digits a.natAbs)) *
                                       sgn (decide (b < 0))
                                         (numW (digits b.natAbs).length (digits b.natAbs))).natAbs).length.ble
                             (digits
                                 (sgn (decide (a < 0)) (numW (digits a.natAbs).length (digits a.natAbs)) *
                                     sgn (decide (b < 0))
                                       (numW (digits b.natAbs).length (digits b.natAbs))).natAbs).length &&
                         (digits d.natAbs).length.ble (digits d.natAbs).length &&
                       (digits
                               (sgn (decide (a < 0)) (numW (digits a.natAbs).length (digits a.natAbs)) *
                                   sgn (decide (b < 0)) (numW (digits b.natAbs).length (digits b.natAbs))).natAbs).length.ble
                         (OfNat.ofNat 399999) &&
                     (digits d.natAbs).length.ble (OfNat.ofNat 399999) &&
                   Nat.blt 0 (numW (digits d.natAbs).length (digits d.natAbs)) &&
                 !decide (d < 0) then
             bif
                 normB
                     (digits
                         (sgn
                               (decide
                                 (sgn (decide (a < 0)) (numW (digits a.natAbs).length (digits a.natAbs)) *
                                     sgn (decide (b < 0)) (numW (digits b.natAbs).length (digits b.natAbs)) <
                                   0))
                               (numW
                                 (digits
                                     (sgn (decide (a < 0)) (numW (digits a.natAbs).length (digits a.natAbs)) *
                                         sgn (decide (b < 0))
                                           (numW (digits b.natAbs).length (digits b.natAbs))).natAbs).length
                                 (digits
                                   (sgn (decide (a < 0)) (numW (digits a.natAbs).length (digits a.natAbs)) *
                                       sgn (decide (b < 0)) (numW (digits b.natAbs).length (digits b.natAbs))).natAbs)) /
                             (↑(numW (digits d.natAbs).length (digits d.natAbs)) : Int)).natAbs).length
                     (digits
                       (sgn
                             (decide
                               (sgn (decide (a < 0)) (numW (digits a.natAbs).length (digits a.natAbs)) *
                                   sgn (decide (b < 0)) (numW (digits b.natAbs).length (digits b.natAbs)) <
                                 0))
                             (numW
                               (digits
                                   (sgn (decide (a < 0)) (numW (digits a.natAbs).length (digits a.natAbs)) *
                                       sgn (decide (b < 0)) (numW (digits b.natAbs).length (digits b.natAbs))).natAbs).length
                               (digits
                                 (sgn (decide (a < 0)) (numW (digits a.natAbs).length (digits a.natAbs)) *
                                     sgn (decide (b < 0)) (numW (digits b.natAbs).length (digits b.natAbs))).natAbs)) /
                           (↑(numW (digits d.natAbs).length (digits d.natAbs)) : Int)).natAbs) &&
                   (digits
                           (sgn
                                 (decide
                                   (sgn (decide (a < 0)) (numW (digits a.natAbs).length (digits a.natAbs)) *
                                       sgn (decide (b < 0)) (numW (digits b.natAbs).length (digits b.natAbs)) <
                                     0))
                                 (numW
                                   (digits
                                       (sgn (decide (a < 0)) (numW (digits a.natAbs).length (digits a.natAbs)) *
                                           sgn (decide (b < 0))
                                             (numW (digits b.natAbs).length (digits b.natAbs))).natAbs).length
                                   (digits
                                     (sgn (decide (a < 0)) (numW (digits a.natAbs).length (digits a.natAbs)) *
                                         sgn (decide (b < 0)) (numW (digits b.natAbs).length (digits b.natAbs))).natAbs)) /
                               (↑(numW (digits d.natAbs).length (digits d.natAbs)) : Int)).natAbs).length.ble
                     (digits
                         (sgn
                               (decide
                                 (sgn (decide (a < 0)) (numW (digits a.natAbs).length (digits a.natAbs)) *
                                     sgn (decide (b < 0)) (numW (digits b.natAbs).length (digits b.natAbs)) <
                                   0))
                               (numW
                                 (digits
                                     (sgn (decide (a < 0)) (numW (digits a.natAbs).length (digits a.natAbs)) *
                                         sgn (decide (b < 0))
                                           (numW (digits b.natAbs).length (digits b.natAbs))).natAbs).length
                                 (digits
                                   (sgn (decide (a < 0)) (numW (digits a.natAbs).length (digits a.natAbs)) *
                                       sgn (decide (b < 0)) (numW (digits b.natAbs).length (digits b.natAbs))).natAbs)) /
                             (↑(numW (digits d.natAbs).length (digits d.natAbs)) : Int)).natAbs).length then
               some
                 (Res.ret
                   (Value.int IntKind.i64
                     (hold
                       (sgn
                         (decide
                           (sgn
                                 (decide
                                   (sgn (decide (a < 0)) (numW (digits a.natAbs).length (digits a.natAbs)) *
                                       sgn (decide (b < 0)) (numW (digits b.natAbs).length (digits b.natAbs)) <
                                     0))
                                 (numW
                                   (digits
                                       (sgn (decide (a < 0)) (numW (digits a.natAbs).length (digits a.natAbs)) *
                                           sgn (decide (b < 0))
                                             (numW (digits b.natAbs).length (digits b.natAbs))).natAbs).length
                                   (digits
                                     (sgn (decide (a < 0)) (numW (digits a.natAbs).length (digits a.natAbs)) *
                                         sgn (decide (b < 0)) (numW (digits b.natAbs).length (digits b.natAbs))).natAbs)) /
                               (↑(numW (digits d.natAbs).length (digits d.natAbs)) : Int) <
                             0))
                         (numW
                           (digits
                               (sgn
                                     (decide
                                       (sgn (decide (a < 0)) (numW (digits a.natAbs).length (digits a.natAbs)) *
                                           sgn (decide (b < 0)) (numW (digits b.natAbs).length (digits b.natAbs)) <
                                         0))
                                     (numW
                                       (digits
                                           (sgn (decide (a < 0)) (numW (digits a.natAbs).length (digits a.natAbs)) *
                                               sgn (decide (b < 0))
                                                 (numW (digits b.natAbs).length (digits b.natAbs))).natAbs).length
                                       (digits
                                         (sgn (decide (a < 0)) (numW (digits a.natAbs).length (digits a.natAbs)) *
                                             sgn (decide (b < 0))
                                               (numW (digits b.natAbs).length (digits b.natAbs))).natAbs)) /
                                   (↑(numW (digits d.natAbs).length (digits d.natAbs)) : Int)).natAbs).length
                           (digits
                             (sgn
                                   (decide
                                     (sgn (decide (a < 0)) (numW (digits a.natAbs).length (digits a.natAbs)) *
                                         sgn (decide (b < 0)) (numW (digits b.natAbs).length (digits b.natAbs)) <
                                       0))
                                   (numW
                                     (digits
                                         (sgn (decide (a < 0)) (numW (digits a.natAbs).length (digits a.natAbs)) *
                                             sgn (decide (b < 0))
                                               (numW (digits b.natAbs).length (digits b.natAbs))).natAbs).length
                                     (digits
                                       (sgn (decide (a < 0)) (numW (digits a.natAbs).length (digits a.natAbs)) *
                                           sgn (decide (b < 0)) (numW (digits b.natAbs).length (digits b.natAbs))).natAbs)) /
                                 (↑(numW (digits d.natAbs).length (digits d.natAbs)) : Int)).natAbs)))))
                   [])
             else none
           else none
       else none) := by kernel_rfl
--CFEND
end Go.Proofs.Ytfgehfnlkakioaa.VC
