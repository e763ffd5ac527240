/- The document's numbers: isSet, Of, Neg, Held, Add, Sub. -/
import Derived.Test.YtfgehfnlkakioaaR7
namespace Go.Proofs.Ytfgehfnlkakioaa.VC
open Go Go.Proofs

abbrev nA (neg : Bool) (id n c : Nat) : Value := .agg ⟨[.bool neg, .slice (some ⟨id, 0, none⟩) n c]⟩
/-- A number with its sign. -/
def sgn (neg : Bool) (v : Nat) : Int := bif neg then -(v : Int) else v
/-- A number as it is told, in the block id. -/
abbrev zV (id : Nat) (z : Int) : Value := .agg ⟨[.bool (decide (z < 0)), .slice (some ⟨id, 0, none⟩) (digits z.natAbs).length 2]⟩
abbrev zB (z : Int) : Option Blk := ob (digits z.natAbs).length (digits z.natAbs)

noncomputable def F91 : FSpec := fun args h k => match args, h with
  | [.slice (some ⟨0, 0, none⟩) n _, .int .i64 p], [some ⟨false, 1, [.ints .u64 n1 xs]⟩] =>
    bif normB n xs && Nat.ble n n1 && decide (0 ≤ p) then k (.bool (decide (numW n xs / 2 ^ p.toNat % 2 = 1))) [wb n1 xs] else none
  | _, _ => none

noncomputable def S1s : Spec := mkS [(93, false, F93), (95, false, F95)]
theorem S1s_ok : SpecOK Try.prog S1s := mkS_cons ok93 (mkS_cons ok95 (mkS_nil _))
--CF cf29 (a : Int) :: fnK Try.prog S1s noL Try.f29 [w63 a] []
theorem cf29 (a : Int) : fnK Try.prog S1s noL Try.f29 [w63 a] [] =
    (bif decide (a < 0) then
       bif
           wordsB 2
               [bits BinOp.and IntKind.u64
                   (IntKind.u64.wrap (bits BinOp.xor IntKind.u64 18446744073709551615 (IntKind.u64.wrap a) + 1)) 4294967295,
                 (IntKind.u64.wrap (bits BinOp.xor IntKind.u64 18446744073709551615 (IntKind.u64.wrap a) + 1)).fdiv
                   4294967296] &&
             true then
         some
           (Res.ret
             (Value.agg
               (Array.mk
                 [Value.bool
                     (decide (a < 0) &&
                       decide
                         (0 <
                           numW 2
                             [bits BinOp.and IntKind.u64
                                 (IntKind.u64.wrap
                                   (bits BinOp.xor IntKind.u64 18446744073709551615 (IntKind.u64.wrap a) + 1))
                                 4294967295,
                               (IntKind.u64.wrap
                                     (bits BinOp.xor IntKind.u64 18446744073709551615 (IntKind.u64.wrap a) + 1)).fdiv
                                 4294967296])),
                   Value.slice (some (Addr.mk 0 0 none))
                     (digits
                         (numW 2
                           [bits BinOp.and IntKind.u64
                               (IntKind.u64.wrap (bits BinOp.xor IntKind.u64 18446744073709551615 (IntKind.u64.wrap a) + 1))
                               4294967295,
                             (IntKind.u64.wrap
                                   (bits BinOp.xor IntKind.u64 18446744073709551615 (IntKind.u64.wrap a) + 1)).fdiv
                               4294967296])).length
                     2]))
             [some
                 (Blk.mk true 1
                   [Seg.ints IntKind.u64 2
                       [bits BinOp.and IntKind.u64
                           (IntKind.u64.wrap (bits BinOp.xor IntKind.u64 18446744073709551615 (IntKind.u64.wrap a) + 1))
                           4294967295,
                         (IntKind.u64.wrap (bits BinOp.xor IntKind.u64 18446744073709551615 (IntKind.u64.wrap a) + 1)).fdiv
                           4294967296]])])
       else none
     else
       bif
           wordsB 2 [bits BinOp.and IntKind.u64 (IntKind.u64.wrap a) 4294967295, (IntKind.u64.wrap a).fdiv 4294967296] &&
             true then
         some
           (Res.ret
             (Value.agg
               (Array.mk
                 [Value.bool
                     (decide (a < 0) &&
                       decide
                         (0 <
                           numW 2
                             [bits BinOp.and IntKind.u64 (IntKind.u64.wrap a) 4294967295,
                               (IntKind.u64.wrap a).fdiv 4294967296])),
                   Value.slice (some (Addr.mk 0 0 none))
                     (digits
                         (numW 2
                           [bits BinOp.and IntKind.u64 (IntKind.u64.wrap a) 4294967295,
                             (IntKind.u64.wrap a).fdiv 4294967296])).length
                     2]))
             [some
                 (Blk.mk true 1
                   [Seg.ints IntKind.u64 2
                       [bits BinOp.and IntKind.u64 (IntKind.u64.wrap a) 4294967295, (IntKind.u64.wrap a).fdiv 4294967296]])])
       else none) := by kernel_rfl
--CFEND
--CF cf37 (s : Bool) (n c n1 : Nat) (xs : List Int) :: fnK Try.prog S1s noL Try.f37 [nA s 0 n c] [wb n1 xs]
theorem cf37 (s : Bool) (n c n1 : Nat) (xs : List Int) : fnK Try.prog S1s noL Try.f37 [nA s 0 n c] [wb n1 xs] =
    (bif wordsB n xs && n.ble n1 then
       some
         (Res.ret
           (Value.agg
             (Array.mk
               [Value.bool (!s && decide (0 < numW n xs)),
                 Value.slice (some (Addr.mk 0 0 none)) (digits (numW n xs)).length 2]))
           [some (Blk.mk false 1 [Seg.ints IntKind.u64 n1 xs])])
     else none) := by kernel_rfl
--CFEND
--CF cf31 (s : Bool) (n c n1 : Nat) (xs : List Int) :: fnK Try.prog S1s noL Try.f31 [nA s 0 n c] [wb n1 xs]
theorem cf31 (s : Bool) (n c n1 : Nat) (xs : List Int) : fnK Try.prog S1s noL Try.f31 [nA s 0 n c] [wb n1 xs] =
    (bif decide ((↑n : Int) > 2) then
       bif s then
         some (Res.ret (Value.int IntKind.i64 (-9223372036854775808)) [some (Blk.mk false 1 [Seg.ints IntKind.u64 n1 xs])])
       else some (Res.ret (Value.int IntKind.i64 9223372036854775807) [some (Blk.mk false 1 [Seg.ints IntKind.u64 n1 xs])])
     else
       bif n.ble n1 && true then
         bif decide (wordAt n xs 1 ≥ 2147483648) then
           bif s then
             some
               (Res.ret (Value.int IntKind.i64 (-9223372036854775808)) [some (Blk.mk false 1 [Seg.ints IntKind.u64 n1 xs])])
           else
             some (Res.ret (Value.int IntKind.i64 9223372036854775807) [some (Blk.mk false 1 [Seg.ints IntKind.u64 n1 xs])])
         else
           bif n.ble n1 && true then
             bif n.ble n1 && true then
               bif s then
                 some
                   (Res.ret
                     (Value.int IntKind.i64
                       (IntKind.i64.wrap
                         (0 -
                           IntKind.i64.wrap
                             (bits BinOp.or IntKind.u64 (IntKind.u64.wrap (wordAt n xs 1 * 4294967296)) (wordAt n xs 0)))))
                     [some (Blk.mk false 1 [Seg.ints IntKind.u64 n1 xs])])
               else
                 some
                   (Res.ret
                     (Value.int IntKind.i64
                       (IntKind.i64.wrap
                         (bits BinOp.or IntKind.u64 (IntKind.u64.wrap (wordAt n xs 1 * 4294967296)) (wordAt n xs 0))))
                     [some (Blk.mk false 1 [Seg.ints IntKind.u64 n1 xs])])
             else none
           else none
       else none) := by kernel_rfl
--CFEND
noncomputable def S2s : Spec := mkS [(92, false, F92), (93, false, F93), (94, false, F94), (96, false, F96)]
theorem S2s_ok : SpecOK Try.prog S2s := mkS_cons ok92 (mkS_cons ok93 (mkS_cons ok94 (mkS_cons ok96 (mkS_nil _))))
--CF cf35 (s t : Bool) (n c m d n1 m1 : Nat) (xs ys : List Int) :: fnK Try.prog S2s noL Try.f35 [nA s 0 n c, nA t 1 m d] [wb n1 xs, wb m1 ys]
theorem cf35 (s t : Bool) (n c m d n1 m1 : Nat) (xs ys : List Int) : fnK Try.prog S2s noL Try.f35 [nA s 0 n c, nA t 1 m d] [wb n1 xs, wb m1 ys] =
    (bif s == t then
       bif normB n xs && normB m ys && n.ble n1 && m.ble m1 then
         bif
             wordsB (digits (numW n xs + numW m ys)).length (digits (numW n xs + numW m ys)) &&
               (digits (numW n xs + numW m ys)).length.ble (digits (numW n xs + numW m ys)).length then
           some
             (Res.ret
               (Value.agg
                 (Array.mk
                   [Value.bool
                       (s && decide (0 < numW (digits (numW n xs + numW m ys)).length (digits (numW n xs + numW m ys)))),
                     Value.slice (some (Addr.mk 2 0 none))
                       (digits (numW (digits (numW n xs + numW m ys)).length (digits (numW n xs + numW m ys)))).length 2]))
               [some (Blk.mk false 1 [Seg.ints IntKind.u64 n1 xs]), some (Blk.mk false 1 [Seg.ints IntKind.u64 m1 ys]),
                 some
                   (Blk.mk true 1
                     [Seg.ints IntKind.u64 (digits (numW n xs + numW m ys)).length (digits (numW n xs + numW m ys))])])
         else none
       else none
     else
       bif normB n xs && normB m ys && n.ble n1 && m.ble m1 then
         bif decide (cmpI (numW n xs) (numW m ys) < 0) then
           bif normB m ys && normB n xs && m.ble m1 && n.ble n1 && (numW n xs).ble (numW m ys) then
             bif wordsB m (wordsN m (numW m ys - numW n xs)) && m.ble m then
               some
                 (Res.ret
                   (Value.agg
                     (Array.mk
                       [Value.bool (t && decide (0 < numW m (wordsN m (numW m ys - numW n xs)))),
                         Value.slice (some (Addr.mk 2 0 none)) (digits (numW m (wordsN m (numW m ys - numW n xs)))).length
                           2]))
                   [some (Blk.mk false 1 [Seg.ints IntKind.u64 n1 xs]), some (Blk.mk false 1 [Seg.ints IntKind.u64 m1 ys]),
                     some (Blk.mk true 1 [Seg.ints IntKind.u64 m (wordsN m (numW m ys - numW n xs))])])
             else none
           else none
         else
           bif normB n xs && normB m ys && n.ble n1 && m.ble m1 && (numW m ys).ble (numW n xs) then
             bif wordsB n (wordsN n (numW n xs - numW m ys)) && n.ble n then
               some
                 (Res.ret
                   (Value.agg
                     (Array.mk
                       [Value.bool (s && decide (0 < numW n (wordsN n (numW n xs - numW m ys)))),
                         Value.slice (some (Addr.mk 2 0 none)) (digits (numW n (wordsN n (numW n xs - numW m ys)))).length
                           2]))
                   [some (Blk.mk false 1 [Seg.ints IntKind.u64 n1 xs]), some (Blk.mk false 1 [Seg.ints IntKind.u64 m1 ys]),
                     some (Blk.mk true 1 [Seg.ints IntKind.u64 n (wordsN n (numW n xs - numW m ys))])])
             else none
           else none
       else none) := by kernel_rfl
--CFEND
end Go.Proofs.Ytfgehfnlkakioaa.VC
