/- The document's numbers: the rounds of its loops. -/
import Derived.Test.YtfgehfnlkakioaaR2
import Derived.Test.YtfgehfnlkakioaaV20
namespace Go.Proofs.Ytfgehfnlkakioaa.VC
open Go Go.Proofs

def S95 : Spec := mkS [(95, false, F95)]
theorem S95_ok : SpecOK Try.prog S95 := mkS_cons ok95 (mkS_nil _)
def live96 : List Nat := [0, 1, 5, 6, 7]
abbrev w64 (x : Int) : Value := .int .u64 x
abbrev w63 (x : Int) : Value := .int .i64 x
abbrev ob (l : Nat) (zs : List Int) : Option Blk := some ⟨true, 1, [.ints .u64 l zs]⟩
--CF cf96r (n c m d l n1 m1 : Nat) (xs ys zs : List Int) (ca : Int) (p : Nat) (on : List Value → Heap → Out) (out : Exit → List Value → Heap → Out) :: roundK Try.prog S95 noL Try.f96.ntmps 2 (loopOf Try.f96 0) live96 [sl 0 n c, sl 1 m d, sl 2 l 1, w64 ca, w63 p] [wb n1 xs, wb m1 ys, ob l zs] on out
theorem cf96r (n c m d l n1 m1 : Nat) (xs ys zs : List Int) (ca : Int) (p : Nat) (on : List Value → Heap → Out) (out : Exit → List Value → Heap → Out) : roundK Try.prog S95 noL Try.f96.ntmps 2 (loopOf Try.f96 0) live96 [sl 0 n c, sl 1 m d, sl 2 l 1, w64 ca, w63 p] [wb n1 xs, wb m1 ys, ob l zs] on out =
    (bif decide ((↑p : Int) < (↑n : Int)) then
       bif n.ble n1 && decide (0 ≤ (↑p : Int)) then
         bif m.ble m1 && decide (0 ≤ (↑p : Int)) then
           bif (l * 1).ble l then
             bif decide ((l + 1) * 8 ≤ 140737488355328) && (l + 1).ble (OfNat.ofNat 4611686018427387904) then
               bif (0 + l * 1).beq l && true then
                 on
                   [Value.slice (some (Addr.mk 0 0 none)) n c, Value.slice (some (Addr.mk 1 0 none)) m d,
                     Value.slice (some (Addr.mk 2 0 none)) (l + 1) 1,
                     Value.int IntKind.u64
                       ((IntKind.u64.wrap (IntKind.u64.wrap (wordAt n xs (↑p : Int) + wordAt m ys (↑p : Int)) + ca)).fdiv
                         4294967296),
                     Value.int IntKind.i64 (IntKind.i64.wrap ((↑p : Int) + 1))]
                   [some (Blk.mk false 1 [Seg.ints IntKind.u64 n1 xs]), some (Blk.mk false 1 [Seg.ints IntKind.u64 m1 ys]),
                     some
                       (Blk.mk true 1
                         [Seg.ints IntKind.u64 (l * 1 + 1)
                             (List.take (l * 1) zs ++
                               [bits BinOp.and IntKind.u64
                                   (IntKind.u64.wrap
                                     (IntKind.u64.wrap (wordAt n xs (↑p : Int) + wordAt m ys (↑p : Int)) + ca))
                                   4294967295])])]
               else none
             else none
           else none
         else none
       else none
     else
       bif decide ((↑p : Int) < (↑m : Int)) then
         bif n.ble n1 && decide (0 ≤ (↑p : Int)) then
           bif m.ble m1 && decide (0 ≤ (↑p : Int)) then
             bif (l * 1).ble l then
               bif decide ((l + 1) * 8 ≤ 140737488355328) && (l + 1).ble (OfNat.ofNat 4611686018427387904) then
                 bif (0 + l * 1).beq l && true then
                   on
                     [Value.slice (some (Addr.mk 0 0 none)) n c, Value.slice (some (Addr.mk 1 0 none)) m d,
                       Value.slice (some (Addr.mk 2 0 none)) (l + 1) 1,
                       Value.int IntKind.u64
                         ((IntKind.u64.wrap (IntKind.u64.wrap (wordAt n xs (↑p : Int) + wordAt m ys (↑p : Int)) + ca)).fdiv
                           4294967296),
                       Value.int IntKind.i64 (IntKind.i64.wrap ((↑p : Int) + 1))]
                     [some (Blk.mk false 1 [Seg.ints IntKind.u64 n1 xs]), some (Blk.mk false 1 [Seg.ints IntKind.u64 m1 ys]),
                       some
                         (Blk.mk true 1
                           [Seg.ints IntKind.u64 (l * 1 + 1)
                               (List.take (l * 1) zs ++
                                 [bits BinOp.and IntKind.u64
                                     (IntKind.u64.wrap
                                       (IntKind.u64.wrap (wordAt n xs (↑p : Int) + wordAt m ys (↑p : Int)) + ca))
                                     4294967295])])]
                 else none
               else none
             else none
           else none
         else none
       else
         bif decide (ca > 0) then
           bif n.ble n1 && decide (0 ≤ (↑p : Int)) then
             bif m.ble m1 && decide (0 ≤ (↑p : Int)) then
               bif (l * 1).ble l then
                 bif decide ((l + 1) * 8 ≤ 140737488355328) && (l + 1).ble (OfNat.ofNat 4611686018427387904) then
                   bif (0 + l * 1).beq l && true then
                     on
                       [Value.slice (some (Addr.mk 0 0 none)) n c, Value.slice (some (Addr.mk 1 0 none)) m d,
                         Value.slice (some (Addr.mk 2 0 none)) (l + 1) 1,
                         Value.int IntKind.u64
                           ((IntKind.u64.wrap (IntKind.u64.wrap (wordAt n xs (↑p : Int) + wordAt m ys (↑p : Int)) + ca)).fdiv
                             4294967296),
                         Value.int IntKind.i64 (IntKind.i64.wrap ((↑p : Int) + 1))]
                       [some (Blk.mk false 1 [Seg.ints IntKind.u64 n1 xs]),
                         some (Blk.mk false 1 [Seg.ints IntKind.u64 m1 ys]),
                         some
                           (Blk.mk true 1
                             [Seg.ints IntKind.u64 (l * 1 + 1)
                                 (List.take (l * 1) zs ++
                                   [bits BinOp.and IntKind.u64
                                       (IntKind.u64.wrap
                                         (IntKind.u64.wrap (wordAt n xs (↑p : Int) + wordAt m ys (↑p : Int)) + ca))
                                       4294967295])])]
                   else none
                 else none
               else none
             else none
           else none
         else
           out (Exit.exit 0)
             [Value.slice (some (Addr.mk 0 0 none)) n c, Value.slice (some (Addr.mk 1 0 none)) m d,
               Value.slice (some (Addr.mk 2 0 none)) l 1, Value.int IntKind.u64 ca, Value.int IntKind.i64 (↑p : Int)]
             [some (Blk.mk false 1 [Seg.ints IntKind.u64 n1 xs]), some (Blk.mk false 1 [Seg.ints IntKind.u64 m1 ys]),
               some (Blk.mk true 1 [Seg.ints IntKind.u64 l zs])]) := by kernel_rfl
--CFEND
def live90 : List Nat := [0, 5, 6, 7]
--CF cf90r (n c l n1 : Nat) (xs zs : List Int) (ca : Int) (p : Nat) (on : List Value → Heap → Out) (out : Exit → List Value → Heap → Out) :: roundK Try.prog S95 noL Try.f90.ntmps 1 (loopOf Try.f90 0) live90 [sl 0 n c, sl 1 l 1, w64 ca, w63 p] [wb n1 xs, ob l zs] on out
theorem cf90r (n c l n1 : Nat) (xs zs : List Int) (ca : Int) (p : Nat) (on : List Value → Heap → Out) (out : Exit → List Value → Heap → Out) : roundK Try.prog S95 noL Try.f90.ntmps 1 (loopOf Try.f90 0) live90 [sl 0 n c, sl 1 l 1, w64 ca, w63 p] [wb n1 xs, ob l zs] on out =
    (bif decide ((↑p : Int) < (↑n : Int)) then
       bif n.ble n1 && decide (0 ≤ (↑p : Int)) then
         bif (l * 1).ble l then
           bif decide ((l + 1) * 8 ≤ 140737488355328) && (l + 1).ble (OfNat.ofNat 4611686018427387904) then
             bif (0 + l * 1).beq l && true then
               on
                 [Value.slice (some (Addr.mk 0 0 none)) n c, Value.slice (some (Addr.mk 1 0 none)) (l + 1) 1,
                   Value.int IntKind.u64
                     ((IntKind.u64.wrap (IntKind.u64.wrap (2 * wordAt n xs (↑p : Int)) + ca)).fdiv 4294967296),
                   Value.int IntKind.i64 (IntKind.i64.wrap ((↑p : Int) + 1))]
                 [some (Blk.mk false 1 [Seg.ints IntKind.u64 n1 xs]),
                   some
                     (Blk.mk true 1
                       [Seg.ints IntKind.u64 (l * 1 + 1)
                           (List.take (l * 1) zs ++
                             [bits BinOp.and IntKind.u64
                                 (IntKind.u64.wrap (IntKind.u64.wrap (2 * wordAt n xs (↑p : Int)) + ca)) 4294967295])])]
             else none
           else none
         else none
       else none
     else
       bif decide (ca > 0) then
         bif n.ble n1 && decide (0 ≤ (↑p : Int)) then
           bif (l * 1).ble l then
             bif decide ((l + 1) * 8 ≤ 140737488355328) && (l + 1).ble (OfNat.ofNat 4611686018427387904) then
               bif (0 + l * 1).beq l && true then
                 on
                   [Value.slice (some (Addr.mk 0 0 none)) n c, Value.slice (some (Addr.mk 1 0 none)) (l + 1) 1,
                     Value.int IntKind.u64
                       ((IntKind.u64.wrap (IntKind.u64.wrap (2 * wordAt n xs (↑p : Int)) + ca)).fdiv 4294967296),
                     Value.int IntKind.i64 (IntKind.i64.wrap ((↑p : Int) + 1))]
                   [some (Blk.mk false 1 [Seg.ints IntKind.u64 n1 xs]),
                     some
                       (Blk.mk true 1
                         [Seg.ints IntKind.u64 (l * 1 + 1)
                             (List.take (l * 1) zs ++
                               [bits BinOp.and IntKind.u64
                                   (IntKind.u64.wrap (IntKind.u64.wrap (2 * wordAt n xs (↑p : Int)) + ca)) 4294967295])])]
               else none
             else none
           else none
         else none
       else
         out (Exit.exit 0)
           [Value.slice (some (Addr.mk 0 0 none)) n c, Value.slice (some (Addr.mk 1 0 none)) l 1, Value.int IntKind.u64 ca,
             Value.int IntKind.i64 (↑p : Int)]
           [some (Blk.mk false 1 [Seg.ints IntKind.u64 n1 xs]), some (Blk.mk true 1 [Seg.ints IntKind.u64 l zs])]) := by kernel_rfl
--CFEND
def live94 : List Nat := [0, 1, 5, 6, 7]
--CF cf94r (n c m d l n1 m1 : Nat) (xs ys zs : List Int) (ca : Int) (p : Nat) (on : List Value → Heap → Out) (out : Exit → List Value → Heap → Out) :: roundK Try.prog S95 noL Try.f94.ntmps 2 (loopOf Try.f94 0) live94 [sl 0 n c, sl 1 m d, sl 2 l 1, w64 ca, w63 p] [wb n1 xs, wb m1 ys, ob l zs] on out
theorem cf94r (n c m d l n1 m1 : Nat) (xs ys zs : List Int) (ca : Int) (p : Nat) (on : List Value → Heap → Out) (out : Exit → List Value → Heap → Out) : roundK Try.prog S95 noL Try.f94.ntmps 2 (loopOf Try.f94 0) live94 [sl 0 n c, sl 1 m d, sl 2 l 1, w64 ca, w63 p] [wb n1 xs, wb m1 ys, ob l zs] on out =
    (bif decide ((↑p : Int) < (↑n : Int)) then
       bif decide (0 ≤ (↑p : Int)) && decide ((↑p : Int) < (↑n : Int)) then
         bif (0 + (↑p : Int).toNat * 1).blt n1 then
           bif m.ble m1 && decide (0 ≤ (↑p : Int)) then
             bif (l * 1).ble l then
               bif decide ((l + 1) * 8 ≤ 140737488355328) && (l + 1).ble (OfNat.ofNat 4611686018427387904) then
                 bif (0 + l * 1).beq l && true then
                   on
                     [Value.slice (some (Addr.mk 0 0 none)) n c, Value.slice (some (Addr.mk 1 0 none)) m d,
                       Value.slice (some (Addr.mk 2 0 none)) (l + 1) 1,
                       Value.int IntKind.u64
                         (IntKind.u64.wrap
                           (1 -
                             (IntKind.u64.wrap
                                   (IntKind.u64.wrap
                                       (IntKind.u64.wrap (4294967296 + xs.getD (0 + (↑p : Int).toNat * 1) 0) -
                                         wordAt m ys (↑p : Int)) -
                                     ca)).fdiv
                               4294967296)),
                       Value.int IntKind.i64 (IntKind.i64.wrap ((↑p : Int) + 1))]
                     [some (Blk.mk false 1 [Seg.ints IntKind.u64 n1 xs]), some (Blk.mk false 1 [Seg.ints IntKind.u64 m1 ys]),
                       some
                         (Blk.mk true 1
                           [Seg.ints IntKind.u64 (l * 1 + 1)
                               (List.take (l * 1) zs ++
                                 [bits BinOp.and IntKind.u64
                                     (IntKind.u64.wrap
                                       (IntKind.u64.wrap
                                           (IntKind.u64.wrap (4294967296 + xs.getD (0 + (↑p : Int).toNat * 1) 0) -
                                             wordAt m ys (↑p : Int)) -
                                         ca))
                                     4294967295])])]
                 else none
               else none
             else none
           else none
         else none
       else none
     else
       out (Exit.exit 0)
         [Value.slice (some (Addr.mk 0 0 none)) n c, Value.slice (some (Addr.mk 1 0 none)) m d,
           Value.slice (some (Addr.mk 2 0 none)) l 1, Value.int IntKind.u64 ca, Value.int IntKind.i64 (↑p : Int)]
         [some (Blk.mk false 1 [Seg.ints IntKind.u64 n1 xs]), some (Blk.mk false 1 [Seg.ints IntKind.u64 m1 ys]),
           some (Blk.mk true 1 [Seg.ints IntKind.u64 l zs])]) := by kernel_rfl
--CFEND
def live92 : List Nat := [0, 1, 4, 5]
--CF cf92r (n c m d n1 m1 : Nat) (xs ys : List Int) (p q : Int) (on : List Value → Heap → Out) (out : Exit → List Value → Heap → Out) :: roundK Try.prog S95 noL Try.f92.ntmps 2 (loopOf Try.f92 0) live92 [sl 0 n c, sl 1 m d, w63 q, w63 p] [wb n1 xs, wb m1 ys] on out
theorem cf92r (n c m d n1 m1 : Nat) (xs ys : List Int) (p q : Int) (on : List Value → Heap → Out) (out : Exit → List Value → Heap → Out) : roundK Try.prog S95 noL Try.f92.ntmps 2 (loopOf Try.f92 0) live92 [sl 0 n c, sl 1 m d, w63 q, w63 p] [wb n1 xs, wb m1 ys] on out =
    (bif decide (p ≥ 0) then
       bif n.ble n1 && decide (0 ≤ p) then
         bif m.ble m1 && decide (0 ≤ p) then
           bif decide (wordAt n xs p > wordAt m ys p) then
             out Exit.ret
               [Value.slice (some (Addr.mk 0 0 none)) n c, Value.slice (some (Addr.mk 1 0 none)) m d,
                 Value.int IntKind.i64 1, Value.int IntKind.i64 p]
               [some (Blk.mk false 1 [Seg.ints IntKind.u64 n1 xs]), some (Blk.mk false 1 [Seg.ints IntKind.u64 m1 ys])]
           else
             bif n.ble n1 && decide (0 ≤ p) then
               bif m.ble m1 && decide (0 ≤ p) then
                 bif decide (wordAt n xs p < wordAt m ys p) then
                   out Exit.ret
                     [Value.slice (some (Addr.mk 0 0 none)) n c, Value.slice (some (Addr.mk 1 0 none)) m d,
                       Value.int IntKind.i64 (-1), Value.int IntKind.i64 p]
                     [some (Blk.mk false 1 [Seg.ints IntKind.u64 n1 xs]), some (Blk.mk false 1 [Seg.ints IntKind.u64 m1 ys])]
                 else
                   on
                     [Value.slice (some (Addr.mk 0 0 none)) n c, Value.slice (some (Addr.mk 1 0 none)) m d,
                       Value.int IntKind.i64 q, Value.int IntKind.i64 (IntKind.i64.wrap (p - 1))]
                     [some (Blk.mk false 1 [Seg.ints IntKind.u64 n1 xs]), some (Blk.mk false 1 [Seg.ints IntKind.u64 m1 ys])]
               else none
             else none
         else none
       else none
     else
       out (Exit.exit 0)
         [Value.slice (some (Addr.mk 0 0 none)) n c, Value.slice (some (Addr.mk 1 0 none)) m d, Value.int IntKind.i64 q,
           Value.int IntKind.i64 p]
         [some (Blk.mk false 1 [Seg.ints IntKind.u64 n1 xs]), some (Blk.mk false 1 [Seg.ints IntKind.u64 m1 ys])]) := by kernel_rfl
--CFEND
def live93 : List Nat := [0, 1, 4, 5]
abbrev nb (neg : Bool) : Option Blk := some ⟨true, 2, [.vals [.bool neg, .slice none 0 0]]⟩
--CF cf93r (b : Bool) (n c n1 : Nat) (xs : List Int) (p : Int) (on : List Value → Heap → Out) (out : Exit → List Value → Heap → Out) :: roundK Try.prog S95 noL Try.f93.ntmps 1 (loopOf Try.f93 0) live93 [.bool b, sl 0 n c, .pointer (some ⟨1, 0, none⟩), w63 p] [wb n1 xs, nb false] on out
theorem cf93r (b : Bool) (n c n1 : Nat) (xs : List Int) (p : Int) (on : List Value → Heap → Out) (out : Exit → List Value → Heap → Out) : roundK Try.prog S95 noL Try.f93.ntmps 1 (loopOf Try.f93 0) live93 [.bool b, sl 0 n c, .pointer (some ⟨1, 0, none⟩), w63 p] [wb n1 xs, nb false] on out =
    (bif decide (p > 0) then
       bif decide (0 ≤ IntKind.i64.wrap (p - 1)) && decide (IntKind.i64.wrap (p - 1) < (↑n : Int)) then
         bif (0 + (IntKind.i64.wrap (p - 1)).toNat * 1).blt n1 then
           bif xs.getD (0 + (IntKind.i64.wrap (p - 1)).toNat * 1) 0 == 0 then
             on
               [Value.bool b, Value.slice (some (Addr.mk 0 0 none)) n c, Value.pointer (some (Addr.mk 1 0 none)),
                 Value.int IntKind.i64 (IntKind.i64.wrap (p - 1))]
               [some (Blk.mk false 1 [Seg.ints IntKind.u64 n1 xs]),
                 some (Blk.mk true 2 [Seg.vals [Value.bool false, Value.slice none 0 0]])]
           else
             out (Exit.exit 0)
               [Value.bool b, Value.slice (some (Addr.mk 0 0 none)) n c, Value.pointer (some (Addr.mk 1 0 none)),
                 Value.int IntKind.i64 p]
               [some (Blk.mk false 1 [Seg.ints IntKind.u64 n1 xs]),
                 some (Blk.mk true 2 [Seg.vals [Value.bool false, Value.slice none 0 0]])]
         else none
       else none
     else
       out (Exit.exit 0)
         [Value.bool b, Value.slice (some (Addr.mk 0 0 none)) n c, Value.pointer (some (Addr.mk 1 0 none)),
           Value.int IntKind.i64 p]
         [some (Blk.mk false 1 [Seg.ints IntKind.u64 n1 xs]),
           some (Blk.mk true 2 [Seg.vals [Value.bool false, Value.slice none 0 0]])]) := by kernel_rfl
--CFEND
end Go.Proofs.Ytfgehfnlkakioaa.VC
