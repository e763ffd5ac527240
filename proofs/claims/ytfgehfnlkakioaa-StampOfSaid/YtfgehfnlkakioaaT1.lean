/- stamp, and the document's answer for it: closed forms. -/
import Derived.Test.YtfgehfnlkakioaaR14
namespace Go.Proofs.Ytfgehfnlkakioaa.VC
open Go Go.Proofs

/-- Which is greater. -/
def cmpZ (a b : Int) : Int := if b < a then 1 else if a < b then -1 else 0
noncomputable def F76 : FSpec := fun args h k => match args, h with
  | [.agg ⟨[.bool s, .slice (some ⟨0, 0, none⟩) n _]⟩, .agg ⟨[.bool t, .slice (some ⟨1, 0, none⟩) m _]⟩], [some ⟨false, 1, [.ints .u64 n1 xs]⟩, some ⟨false, 1, [.ints .u64 m1 ys]⟩] =>
    bif normB n xs && normB m ys && Nat.ble n n1 && Nat.ble m m1 && chk (s = true → 0 < numW n xs) && chk (t = true → 0 < numW m ys) then k (w63 (cmpZ (sgn s (numW n xs)) (sgn t (numW m ys)))) [wb n1 xs, wb m1 ys] else none
  | _, _ => none
noncomputable def S76 : Spec := mkS [(92, false, F92)]
--CF cf76 (s t : Bool) (n c m d n1 m1 : Nat) (xs ys : List Int) :: fnK Try.prog S76 noL Try.f76 [nA s 0 n c, nA t 1 m d] [wb n1 xs, wb m1 ys]
theorem cf76 (s t : Bool) (n c m d n1 m1 : Nat) (xs ys : List Int) : fnK Try.prog S76 noL Try.f76 [nA s 0 n c, nA t 1 m d] [wb n1 xs, wb m1 ys] =
    (bif s then
       bif !t then
         some
           (Res.ret (Value.int IntKind.i64 (-1))
             [some (Blk.mk false 1 [Seg.ints IntKind.u64 n1 xs]), some (Blk.mk false 1 [Seg.ints IntKind.u64 m1 ys])])
       else
         bif t then
           bif !s then
             some
               (Res.ret (Value.int IntKind.i64 1)
                 [some (Blk.mk false 1 [Seg.ints IntKind.u64 n1 xs]), some (Blk.mk false 1 [Seg.ints IntKind.u64 m1 ys])])
           else
             bif s then
               bif normB m ys && normB n xs && m.ble m1 && n.ble n1 then
                 some
                   (Res.ret (Value.int IntKind.i64 (cmpI (numW m ys) (numW n xs)))
                     [some (Blk.mk false 1 [Seg.ints IntKind.u64 n1 xs]),
                       some (Blk.mk false 1 [Seg.ints IntKind.u64 m1 ys])])
               else none
             else
               bif normB n xs && normB m ys && n.ble n1 && m.ble m1 then
                 some
                   (Res.ret (Value.int IntKind.i64 (cmpI (numW n xs) (numW m ys)))
                     [some (Blk.mk false 1 [Seg.ints IntKind.u64 n1 xs]),
                       some (Blk.mk false 1 [Seg.ints IntKind.u64 m1 ys])])
               else none
         else
           bif s then
             bif normB m ys && normB n xs && m.ble m1 && n.ble n1 then
               some
                 (Res.ret (Value.int IntKind.i64 (cmpI (numW m ys) (numW n xs)))
                   [some (Blk.mk false 1 [Seg.ints IntKind.u64 n1 xs]), some (Blk.mk false 1 [Seg.ints IntKind.u64 m1 ys])])
             else none
           else
             bif normB n xs && normB m ys && n.ble n1 && m.ble m1 then
               some
                 (Res.ret (Value.int IntKind.i64 (cmpI (numW n xs) (numW m ys)))
                   [some (Blk.mk false 1 [Seg.ints IntKind.u64 n1 xs]), some (Blk.mk false 1 [Seg.ints IntKind.u64 m1 ys])])
             else none
     else
       bif t then
         bif !s then
           some
             (Res.ret (Value.int IntKind.i64 1)
               [some (Blk.mk false 1 [Seg.ints IntKind.u64 n1 xs]), some (Blk.mk false 1 [Seg.ints IntKind.u64 m1 ys])])
         else
           bif s then
             bif normB m ys && normB n xs && m.ble m1 && n.ble n1 then
               some
                 (Res.ret (Value.int IntKind.i64 (cmpI (numW m ys) (numW n xs)))
                   [some (Blk.mk false 1 [Seg.ints IntKind.u64 n1 xs]), some (Blk.mk false 1 [Seg.ints IntKind.u64 m1 ys])])
             else none
           else
             bif normB n xs && normB m ys && n.ble n1 && m.ble m1 then
               some
                 (Res.ret (Value.int IntKind.i64 (cmpI (numW n xs) (numW m ys)))
                   [some (Blk.mk false 1 [Seg.ints IntKind.u64 n1 xs]), some (Blk.mk false 1 [Seg.ints IntKind.u64 m1 ys])])
             else none
       else
         bif s then
           bif normB m ys && normB n xs && m.ble m1 && n.ble n1 then
             some
               (Res.ret (Value.int IntKind.i64 (cmpI (numW m ys) (numW n xs)))
                 [some (Blk.mk false 1 [Seg.ints IntKind.u64 n1 xs]), some (Blk.mk false 1 [Seg.ints IntKind.u64 m1 ys])])
           else none
         else
           bif normB n xs && normB m ys && n.ble n1 && m.ble m1 then
             some
               (Res.ret (Value.int IntKind.i64 (cmpI (numW n xs) (numW m ys)))
                 [some (Blk.mk false 1 [Seg.ints IntKind.u64 n1 xs]), some (Blk.mk false 1 [Seg.ints IntKind.u64 m1 ys])])
           else none) := by kernel_rfl
--CFEND
noncomputable def S98 : Spec := mkS [(31, false, F31)]
--CF cf98 (s : Bool) (n c n1 : Nat) (xs : List Int) :: fnK Try.prog S98 noL Try.f98 [nA s 0 n c] [wb n1 xs]
theorem cf98 (s : Bool) (n c n1 : Nat) (xs : List Int) : fnK Try.prog S98 noL Try.f98 [nA s 0 n c] [wb n1 xs] =
    (bif normB n xs && n.ble n1 then
       some (Res.ret (Value.int IntKind.i64 (hold (sgn s (numW n xs)))) [some (Blk.mk false 1 [Seg.ints IntKind.u64 n1 xs])])
     else none) := by kernel_rfl
--CFEND
noncomputable def S99 : Spec := mkS [(27, false, F27), (28, false, F28), (29, false, F29), (98, false, F31)]
--CF cf99 (a : Int) :: fnK Try.prog S99 noL Try.f99 [w63 a] []
theorem cf99 (a : Int) : fnK Try.prog S99 noL Try.f99 [w63 a] [] =
    (bif
         normB (digits a.natAbs).length (digits a.natAbs) && normB 2 (digits 4294967296) &&
                     (digits a.natAbs).length.ble (digits a.natAbs).length &&
                   true &&
                 (digits a.natAbs).length.ble (OfNat.ofNat 399999) &&
               true &&
             true &&
           true then
       bif
           normB (digits (sgn (decide (a < 0)) (numW (digits a.natAbs).length (digits a.natAbs)) % 4294967296).natAbs).length
               (digits (sgn (decide (a < 0)) (numW (digits a.natAbs).length (digits a.natAbs)) % 4294967296).natAbs) &&
             (digits (sgn (decide (a < 0)) (numW (digits a.natAbs).length (digits a.natAbs)) % 4294967296).natAbs).length.ble
               (digits
                   (sgn (decide (a < 0)) (numW (digits a.natAbs).length (digits a.natAbs)) % 4294967296).natAbs).length then
         bif
             normB
                 (digits (sgn (decide (a < 0)) (numW (digits a.natAbs).length (digits a.natAbs)) / 4294967296).natAbs).length
                 (digits (sgn (decide (a < 0)) (numW (digits a.natAbs).length (digits a.natAbs)) / 4294967296).natAbs) &&
               (digits
                       (sgn (decide (a < 0)) (numW (digits a.natAbs).length (digits a.natAbs)) /
                           4294967296).natAbs).length.ble
                 (digits
                     (sgn (decide (a < 0)) (numW (digits a.natAbs).length (digits a.natAbs)) /
                         4294967296).natAbs).length then
           some
             (Res.ret
               (Value.tuple
                 (Array.mk
                   [Value.int IntKind.i64
                       (hold
                         (sgn
                           (decide (sgn (decide (a < 0)) (numW (digits a.natAbs).length (digits a.natAbs)) % 4294967296 < 0))
                           (numW
                             (digits
                                 (sgn (decide (a < 0)) (numW (digits a.natAbs).length (digits a.natAbs)) %
                                     4294967296).natAbs).length
                             (digits
                               (sgn (decide (a < 0)) (numW (digits a.natAbs).length (digits a.natAbs)) %
                                   4294967296).natAbs)))),
                     Value.int IntKind.i64
                       (hold
                         (sgn
                           (decide (sgn (decide (a < 0)) (numW (digits a.natAbs).length (digits a.natAbs)) / 4294967296 < 0))
                           (numW
                             (digits
                                 (sgn (decide (a < 0)) (numW (digits a.natAbs).length (digits a.natAbs)) /
                                     4294967296).natAbs).length
                             (digits
                               (sgn (decide (a < 0)) (numW (digits a.natAbs).length (digits a.natAbs)) /
                                   4294967296).natAbs))))]))
               [])
         else none
       else none
     else none) := by kernel_rfl
--CFEND
def F99 : FSpec := fun args h k => match args, h with
  | [.int .i64 a], [] => k (.tuple ⟨[w63 (a % 4294967296), w63 (a / 4294967296)]⟩) []
  | _, _ => none
noncomputable def F100 : FSpec := fun args h k => match args, h with
  | [.agg ⟨[.bool s, .slice (some ⟨0, 0, none⟩) n _]⟩, .int .i64 p], [some ⟨false, 1, [.ints .u64 n1 xs]⟩] =>
    bif normB n xs && Nat.ble n n1 && Nat.ble n 400000 then k (.agg ⟨[.bool false, .slice (some ⟨1, 0, none⟩) (digits (sgn s (numW n xs) - p).natAbs).length 2]⟩) [wb n1 xs, db (sgn s (numW n xs) - p).natAbs] else none
  | _, _ => none
noncomputable def S100 : Spec := mkS [(29, false, F29), (36, false, F36)]
--CF cf100 (s : Bool) (n c n1 : Nat) (xs : List Int) (p : Int) :: fnK Try.prog S100 noL Try.f100 [nA s 0 n c, w63 p] [wb n1 xs]
theorem cf100 (s : Bool) (n c n1 : Nat) (xs : List Int) (p : Int) : fnK Try.prog S100 noL Try.f100 [nA s 0 n c, w63 p] [wb n1 xs] =
    (bif
         normB n xs && normB (digits p.natAbs).length (digits p.natAbs) && n.ble n1 &&
               (digits p.natAbs).length.ble (digits p.natAbs).length &&
             n.ble (OfNat.ofNat 400000) &&
           (digits p.natAbs).length.ble (OfNat.ofNat 400000) then
       some
         (Res.ret
           (Value.agg
             (Array.mk
               [Value.bool false,
                 Value.slice (some (Addr.mk 1 0 none))
                   (digits
                       (sgn s (numW n xs) -
                           sgn (decide (p < 0)) (numW (digits p.natAbs).length (digits p.natAbs))).natAbs).length
                   2]))
           [some (Blk.mk false 1 [Seg.ints IntKind.u64 n1 xs]),
             some
               (Blk.mk true 1
                 [Seg.ints IntKind.u64
                     (digits
                         (sgn s (numW n xs) -
                             sgn (decide (p < 0)) (numW (digits p.natAbs).length (digits p.natAbs))).natAbs).length
                     (digits
                       (sgn s (numW n xs) -
                           sgn (decide (p < 0)) (numW (digits p.natAbs).length (digits p.natAbs))).natAbs)])])
     else none) := by kernel_rfl
--CFEND
--CF cf97 (a b : Int) :: fnK Try.prog (mkS []) noL Try.f97 [.int .i32 a, .pointer (some ⟨0, 0, none⟩)] [some ⟨false, 1, [.ints .i64 1 [b]]⟩]
theorem cf97 (a b : Int) : fnK Try.prog (mkS []) noL Try.f97 [.int .i32 a, .pointer (some ⟨0, 0, none⟩)] [some ⟨false, 1, [.ints .i64 1 [b]]⟩] =
    (some
       (Res.ret (Value.int IntKind.i64 (IntKind.i64.wrap (b + IntKind.i64.wrap a)))
         [some (Blk.mk false 1 [Seg.ints IntKind.i64 1 [b]])])) := by kernel_rfl
--CFEND
def F97 : FSpec := fun args h k => match args, h with
  | [.int .i32 a, .pointer (some ⟨0, 0, none⟩)], [some ⟨false, 1, [.ints .i64 1 [b]]⟩] => k (w63 (IntKind.i64.wrap (b + IntKind.i64.wrap a))) [some ⟨false, 1, [.ints .i64 1 [b]]⟩]
  | _, _ => none
def S39 : Spec := mkS [(21, false, F21), (97, false, F97)]
--CF cf39 (a b : Int) :: fnK Try.prog S39 noL Try.f39 [w64 a, w63 b] []
theorem cf39 (a b : Int) : fnK Try.prog S39 noL Try.f39 [w64 a, w63 b] [] =
    (bif
         decide
           (IntKind.i32.wrap
               (IntKind.u32.wrap (IntKind.u32.wrap (IntKind.i64.wrap (a.fdiv 4294967296)) - IntKind.u32.wrap b)) >
             0) then
       bif
           decide
             (b >
               IntKind.i64.wrap
                 (9223372036854775807 -
                   IntKind.i64.wrap
                     (IntKind.i32.wrap
                       (IntKind.u32.wrap
                         (IntKind.u32.wrap (IntKind.i64.wrap (a.fdiv 4294967296)) - IntKind.u32.wrap b))))) then
         some
           (Res.ret
             (Value.tuple
               (Array.mk
                 [Value.int IntKind.i64
                     (IntKind.i64.wrap
                       (IntKind.i64.wrap
                           (b +
                             IntKind.i64.wrap
                               (IntKind.i32.wrap
                                 (IntKind.u32.wrap
                                   (IntKind.u32.wrap (IntKind.i64.wrap (a.fdiv 4294967296)) - IntKind.u32.wrap b)))) -
                         4294967296)),
                   Value.int IntKind.i64
                     (if 999999999 < upI (IntKind.i64.wrap (IntKind.u32.wrap a)) 1000000000 4294967296 then 999999999
                     else upI (IntKind.i64.wrap (IntKind.u32.wrap a)) 1000000000 4294967296)]))
             [])
       else
         bif
             decide
               (IntKind.i32.wrap
                   (IntKind.u32.wrap (IntKind.u32.wrap (IntKind.i64.wrap (a.fdiv 4294967296)) - IntKind.u32.wrap b)) <
                 0) then
           bif
               decide
                 (b <
                   IntKind.i64.wrap
                     (-9223372036854775808 -
                       IntKind.i64.wrap
                         (IntKind.i32.wrap
                           (IntKind.u32.wrap
                             (IntKind.u32.wrap (IntKind.i64.wrap (a.fdiv 4294967296)) - IntKind.u32.wrap b))))) then
             some
               (Res.ret
                 (Value.tuple
                   (Array.mk
                     [Value.int IntKind.i64
                         (IntKind.i64.wrap
                           (IntKind.i64.wrap
                               (b +
                                 IntKind.i64.wrap
                                   (IntKind.i32.wrap
                                     (IntKind.u32.wrap
                                       (IntKind.u32.wrap (IntKind.i64.wrap (a.fdiv 4294967296)) - IntKind.u32.wrap b)))) +
                             4294967296)),
                       Value.int IntKind.i64
                         (if 999999999 < upI (IntKind.i64.wrap (IntKind.u32.wrap a)) 1000000000 4294967296 then 999999999
                         else upI (IntKind.i64.wrap (IntKind.u32.wrap a)) 1000000000 4294967296)]))
                 [])
           else
             some
               (Res.ret
                 (Value.tuple
                   (Array.mk
                     [Value.int IntKind.i64
                         (IntKind.i64.wrap
                           (b +
                             IntKind.i64.wrap
                               (IntKind.i32.wrap
                                 (IntKind.u32.wrap
                                   (IntKind.u32.wrap (IntKind.i64.wrap (a.fdiv 4294967296)) - IntKind.u32.wrap b))))),
                       Value.int IntKind.i64
                         (if 999999999 < upI (IntKind.i64.wrap (IntKind.u32.wrap a)) 1000000000 4294967296 then 999999999
                         else upI (IntKind.i64.wrap (IntKind.u32.wrap a)) 1000000000 4294967296)]))
                 [])
         else
           some
             (Res.ret
               (Value.tuple
                 (Array.mk
                   [Value.int IntKind.i64
                       (IntKind.i64.wrap
                         (b +
                           IntKind.i64.wrap
                             (IntKind.i32.wrap
                               (IntKind.u32.wrap
                                 (IntKind.u32.wrap (IntKind.i64.wrap (a.fdiv 4294967296)) - IntKind.u32.wrap b))))),
                     Value.int IntKind.i64
                       (if 999999999 < upI (IntKind.i64.wrap (IntKind.u32.wrap a)) 1000000000 4294967296 then 999999999
                       else upI (IntKind.i64.wrap (IntKind.u32.wrap a)) 1000000000 4294967296)]))
               [])
     else
       bif
           decide
             (IntKind.i32.wrap
                 (IntKind.u32.wrap (IntKind.u32.wrap (IntKind.i64.wrap (a.fdiv 4294967296)) - IntKind.u32.wrap b)) <
               0) then
         bif
             decide
               (b <
                 IntKind.i64.wrap
                   (-9223372036854775808 -
                     IntKind.i64.wrap
                       (IntKind.i32.wrap
                         (IntKind.u32.wrap
                           (IntKind.u32.wrap (IntKind.i64.wrap (a.fdiv 4294967296)) - IntKind.u32.wrap b))))) then
           some
             (Res.ret
               (Value.tuple
                 (Array.mk
                   [Value.int IntKind.i64
                       (IntKind.i64.wrap
                         (IntKind.i64.wrap
                             (b +
                               IntKind.i64.wrap
                                 (IntKind.i32.wrap
                                   (IntKind.u32.wrap
                                     (IntKind.u32.wrap (IntKind.i64.wrap (a.fdiv 4294967296)) - IntKind.u32.wrap b)))) +
                           4294967296)),
                     Value.int IntKind.i64
                       (if 999999999 < upI (IntKind.i64.wrap (IntKind.u32.wrap a)) 1000000000 4294967296 then 999999999
                       else upI (IntKind.i64.wrap (IntKind.u32.wrap a)) 1000000000 4294967296)]))
               [])
         else
           some
             (Res.ret
               (Value.tuple
                 (Array.mk
                   [Value.int IntKind.i64
                       (IntKind.i64.wrap
                         (b +
                           IntKind.i64.wrap
                             (IntKind.i32.wrap
                               (IntKind.u32.wrap
                                 (IntKind.u32.wrap (IntKind.i64.wrap (a.fdiv 4294967296)) - IntKind.u32.wrap b))))),
                     Value.int IntKind.i64
                       (if 999999999 < upI (IntKind.i64.wrap (IntKind.u32.wrap a)) 1000000000 4294967296 then 999999999
                       else upI (IntKind.i64.wrap (IntKind.u32.wrap a)) 1000000000 4294967296)]))
               [])
       else
         some
           (Res.ret
             (Value.tuple
               (Array.mk
                 [Value.int IntKind.i64
                     (IntKind.i64.wrap
                       (b +
                         IntKind.i64.wrap
                           (IntKind.i32.wrap
                             (IntKind.u32.wrap
                               (IntKind.u32.wrap (IntKind.i64.wrap (a.fdiv 4294967296)) - IntKind.u32.wrap b))))),
                   Value.int IntKind.i64
                     (if 999999999 < upI (IntKind.i64.wrap (IntKind.u32.wrap a)) 1000000000 4294967296 then 999999999
                     else upI (IntKind.i64.wrap (IntKind.u32.wrap a)) 1000000000 4294967296)]))
             [])) := by kernel_rfl
--CFEND

noncomputable def S40 : Spec := mkS [(27, false, F27), (29, false, F29), (32, false, F32), (35, false, F35), (76, false, F76), (86, false, F86), (98, false, F31), (99, false, F99), (100, false, F100)]
def live40 : List Nat := [1, 6, 8, 10, 11, 12, 13]
--CF cf40A (p low ns e q : Int) (on : List Value → Heap → Out) (out : Exit → List Value → Heap → Out) :: roundK Try.prog S40 noL Try.f40.ntmps 0 (loopOf Try.f40 0) live40 [w63 p, w63 low, w63 ns, w63 e, pt 0, .bool false, w63 q] [nb false] on out
theorem cf40A (p low ns e q : Int) (on : List Value → Heap → Out) (out : Exit → List Value → Heap → Out) : roundK Try.prog S40 noL Try.f40.ntmps 0 (loopOf Try.f40 0) live40 [w63 p, w63 low, w63 ns, w63 e, pt 0, .bool false, w63 q] [nb false] on out =
    (bif decide (q ≤ IntKind.i64.wrap (e + 1)) then
       bif
           normB (digits q.natAbs).length (digits q.natAbs) && normB 2 (digits 4294967296) &&
                   (digits q.natAbs).length.ble (digits q.natAbs).length &&
                 true &&
               (digits q.natAbs).length.ble (OfNat.ofNat 400000) &&
             true then
         bif
             normB
                         (digits
                             (sgn (decide (q < 0)) (numW (digits q.natAbs).length (digits q.natAbs)) *
                                 4294967296).natAbs).length
                         (digits
                           (sgn (decide (q < 0)) (numW (digits q.natAbs).length (digits q.natAbs)) * 4294967296).natAbs) &&
                       normB (digits low.natAbs).length (digits low.natAbs) &&
                     (digits
                             (sgn (decide (q < 0)) (numW (digits q.natAbs).length (digits q.natAbs)) *
                                 4294967296).natAbs).length.ble
                       (digits
                           (sgn (decide (q < 0)) (numW (digits q.natAbs).length (digits q.natAbs)) *
                               4294967296).natAbs).length &&
                   (digits low.natAbs).length.ble (digits low.natAbs).length &&
                 (digits
                         (sgn (decide (q < 0)) (numW (digits q.natAbs).length (digits q.natAbs)) *
                             4294967296).natAbs).length.ble
                   (OfNat.ofNat 400000) &&
               (digits low.natAbs).length.ble (OfNat.ofNat 400000) then
           bif
               normB
                           (digits
                               (sgn
                                     (decide
                                       (sgn (decide (q < 0)) (numW (digits q.natAbs).length (digits q.natAbs)) * 4294967296 <
                                         0))
                                     (numW
                                       (digits
                                           (sgn (decide (q < 0)) (numW (digits q.natAbs).length (digits q.natAbs)) *
                                               4294967296).natAbs).length
                                       (digits
                                         (sgn (decide (q < 0)) (numW (digits q.natAbs).length (digits q.natAbs)) *
                                             4294967296).natAbs)) +
                                   sgn (decide (low < 0))
                                     (numW (digits low.natAbs).length (digits low.natAbs))).natAbs).length
                           (digits
                             (sgn
                                   (decide
                                     (sgn (decide (q < 0)) (numW (digits q.natAbs).length (digits q.natAbs)) * 4294967296 <
                                       0))
                                   (numW
                                     (digits
                                         (sgn (decide (q < 0)) (numW (digits q.natAbs).length (digits q.natAbs)) *
                                             4294967296).natAbs).length
                                     (digits
                                       (sgn (decide (q < 0)) (numW (digits q.natAbs).length (digits q.natAbs)) *
                                           4294967296).natAbs)) +
                                 sgn (decide (low < 0)) (numW (digits low.natAbs).length (digits low.natAbs))).natAbs) &&
                         normB 2 (digits 9223372036854775808) &&
                       (digits
                               (sgn
                                     (decide
                                       (sgn (decide (q < 0)) (numW (digits q.natAbs).length (digits q.natAbs)) * 4294967296 <
                                         0))
                                     (numW
                                       (digits
                                           (sgn (decide (q < 0)) (numW (digits q.natAbs).length (digits q.natAbs)) *
                                               4294967296).natAbs).length
                                       (digits
                                         (sgn (decide (q < 0)) (numW (digits q.natAbs).length (digits q.natAbs)) *
                                             4294967296).natAbs)) +
                                   sgn (decide (low < 0))
                                     (numW (digits low.natAbs).length (digits low.natAbs))).natAbs).length.ble
                         (digits
                             (sgn
                                   (decide
                                     (sgn (decide (q < 0)) (numW (digits q.natAbs).length (digits q.natAbs)) * 4294967296 <
                                       0))
                                   (numW
                                     (digits
                                         (sgn (decide (q < 0)) (numW (digits q.natAbs).length (digits q.natAbs)) *
                                             4294967296).natAbs).length
                                     (digits
                                       (sgn (decide (q < 0)) (numW (digits q.natAbs).length (digits q.natAbs)) *
                                           4294967296).natAbs)) +
                                 sgn (decide (low < 0))
                                   (numW (digits low.natAbs).length (digits low.natAbs))).natAbs).length &&
                     true &&
                   chk
                     (decide
                           (sgn
                                 (decide
                                   (sgn (decide (q < 0)) (numW (digits q.natAbs).length (digits q.natAbs)) *
                                       sgn false (numW (digits (2 ^ Int.toNat 32)).length (digits (2 ^ Int.toNat 32))) <
                                     0))
                                 (numW
                                   (digits
                                       (sgn (decide (q < 0)) (numW (digits q.natAbs).length (digits q.natAbs)) *
                                           sgn false
                                             (numW (digits (2 ^ Int.toNat 32)).length
                                               (digits (2 ^ Int.toNat 32)))).natAbs).length
                                   (digits
                                     (sgn (decide (q < 0)) (numW (digits q.natAbs).length (digits q.natAbs)) *
                                         sgn false
                                           (numW (digits (2 ^ Int.toNat 32)).length (digits (2 ^ Int.toNat 32)))).natAbs)) +
                               sgn (decide (low < 0)) (numW (digits low.natAbs).length (digits low.natAbs)) <
                             0) =
                         true →
                       0 <
                         numW
                           (digits
                               (sgn
                                     (decide
                                       (sgn (decide (q < 0)) (numW (digits q.natAbs).length (digits q.natAbs)) *
                                           sgn false (numW (digits (2 ^ Int.toNat 32)).length (digits (2 ^ Int.toNat 32))) <
                                         0))
                                     (numW
                                       (digits
                                           (sgn (decide (q < 0)) (numW (digits q.natAbs).length (digits q.natAbs)) *
                                               sgn false
                                                 (numW (digits (2 ^ Int.toNat 32)).length
                                                   (digits (2 ^ Int.toNat 32)))).natAbs).length
                                       (digits
                                         (sgn (decide (q < 0)) (numW (digits q.natAbs).length (digits q.natAbs)) *
                                             sgn false
                                               (numW (digits (2 ^ Int.toNat 32)).length
                                                 (digits (2 ^ Int.toNat 32)))).natAbs)) +
                                   sgn (decide (low < 0))
                                     (numW (digits low.natAbs).length (digits low.natAbs))).natAbs).length
                           (digits
                             (sgn
                                   (decide
                                     (sgn (decide (q < 0)) (numW (digits q.natAbs).length (digits q.natAbs)) *
                                         sgn false (numW (digits (2 ^ Int.toNat 32)).length (digits (2 ^ Int.toNat 32))) <
                                       0))
                                   (numW
                                     (digits
                                         (sgn (decide (q < 0)) (numW (digits q.natAbs).length (digits q.natAbs)) *
                                             sgn false
                                               (numW (digits (2 ^ Int.toNat 32)).length
                                                 (digits (2 ^ Int.toNat 32)))).natAbs).length
                                     (digits
                                       (sgn (decide (q < 0)) (numW (digits q.natAbs).length (digits q.natAbs)) *
                                           sgn false
                                             (numW (digits (2 ^ Int.toNat 32)).length
                                               (digits (2 ^ Int.toNat 32)))).natAbs)) +
                                 sgn (decide (low < 0)) (numW (digits low.natAbs).length (digits low.natAbs))).natAbs)) &&
                 chk
                   (decide (-9223372036854775808 < 0) = true →
                     0 < numW (digits (-9223372036854775808).natAbs).length (digits (-9223372036854775808).natAbs)) then
             bif
                 decide
                   (cmpZ
                       (sgn
                         (decide
                           (sgn
                                 (decide
                                   (sgn (decide (q < 0)) (numW (digits q.natAbs).length (digits q.natAbs)) * 4294967296 < 0))
                                 (numW
                                   (digits
                                       (sgn (decide (q < 0)) (numW (digits q.natAbs).length (digits q.natAbs)) *
                                           4294967296).natAbs).length
                                   (digits
                                     (sgn (decide (q < 0)) (numW (digits q.natAbs).length (digits q.natAbs)) *
                                         4294967296).natAbs)) +
                               sgn (decide (low < 0)) (numW (digits low.natAbs).length (digits low.natAbs)) <
                             0))
                         (numW
                           (digits
                               (sgn
                                     (decide
                                       (sgn (decide (q < 0)) (numW (digits q.natAbs).length (digits q.natAbs)) * 4294967296 <
                                         0))
                                     (numW
                                       (digits
                                           (sgn (decide (q < 0)) (numW (digits q.natAbs).length (digits q.natAbs)) *
                                               4294967296).natAbs).length
                                       (digits
                                         (sgn (decide (q < 0)) (numW (digits q.natAbs).length (digits q.natAbs)) *
                                             4294967296).natAbs)) +
                                   sgn (decide (low < 0))
                                     (numW (digits low.natAbs).length (digits low.natAbs))).natAbs).length
                           (digits
                             (sgn
                                   (decide
                                     (sgn (decide (q < 0)) (numW (digits q.natAbs).length (digits q.natAbs)) * 4294967296 <
                                       0))
                                   (numW
                                     (digits
                                         (sgn (decide (q < 0)) (numW (digits q.natAbs).length (digits q.natAbs)) *
                                             4294967296).natAbs).length
                                     (digits
                                       (sgn (decide (q < 0)) (numW (digits q.natAbs).length (digits q.natAbs)) *
                                           4294967296).natAbs)) +
                                 sgn (decide (low < 0)) (numW (digits low.natAbs).length (digits low.natAbs))).natAbs)))
                       (-9223372036854775808) <
                     0) then
               on
                 [Value.int IntKind.i64 p, Value.int IntKind.i64 low, Value.int IntKind.i64 ns, Value.int IntKind.i64 e,
                   Value.pointer (some (Addr.mk 0 0 none)), Value.bool false,
                   Value.int IntKind.i64 (IntKind.i64.wrap (q + 1))]
                 [some (Blk.mk true 2 [Seg.vals [Value.bool false, Value.slice none 0 0]])]
             else
               bif
                   normB
                               (digits
                                   (sgn
                                         (decide
                                           (sgn (decide (q < 0)) (numW (digits q.natAbs).length (digits q.natAbs)) *
                                               4294967296 <
                                             0))
                                         (numW
                                           (digits
                                               (sgn (decide (q < 0)) (numW (digits q.natAbs).length (digits q.natAbs)) *
                                                   4294967296).natAbs).length
                                           (digits
                                             (sgn (decide (q < 0)) (numW (digits q.natAbs).length (digits q.natAbs)) *
                                                 4294967296).natAbs)) +
                                       sgn (decide (low < 0))
                                         (numW (digits low.natAbs).length (digits low.natAbs))).natAbs).length
                               (digits
                                 (sgn
                                       (decide
                                         (sgn (decide (q < 0)) (numW (digits q.natAbs).length (digits q.natAbs)) *
                                             4294967296 <
                                           0))
                                       (numW
                                         (digits
                                             (sgn (decide (q < 0)) (numW (digits q.natAbs).length (digits q.natAbs)) *
                                                 4294967296).natAbs).length
                                         (digits
                                           (sgn (decide (q < 0)) (numW (digits q.natAbs).length (digits q.natAbs)) *
                                               4294967296).natAbs)) +
                                     sgn (decide (low < 0)) (numW (digits low.natAbs).length (digits low.natAbs))).natAbs) &&
                             normB 2 (digits 9223372036854775807) &&
                           (digits
                                   (sgn
                                         (decide
                                           (sgn (decide (q < 0)) (numW (digits q.natAbs).length (digits q.natAbs)) *
                                               4294967296 <
                                             0))
                                         (numW
                                           (digits
                                               (sgn (decide (q < 0)) (numW (digits q.natAbs).length (digits q.natAbs)) *
                                                   4294967296).natAbs).length
                                           (digits
                                             (sgn (decide (q < 0)) (numW (digits q.natAbs).length (digits q.natAbs)) *
                                                 4294967296).natAbs)) +
                                       sgn (decide (low < 0))
                                         (numW (digits low.natAbs).length (digits low.natAbs))).natAbs).length.ble
                             (digits
                                 (sgn
                                       (decide
                                         (sgn (decide (q < 0)) (numW (digits q.natAbs).length (digits q.natAbs)) *
                                             4294967296 <
                                           0))
                                       (numW
                                         (digits
                                             (sgn (decide (q < 0)) (numW (digits q.natAbs).length (digits q.natAbs)) *
                                                 4294967296).natAbs).length
                                         (digits
                                           (sgn (decide (q < 0)) (numW (digits q.natAbs).length (digits q.natAbs)) *
                                               4294967296).natAbs)) +
                                     sgn (decide (low < 0))
                                       (numW (digits low.natAbs).length (digits low.natAbs))).natAbs).length &&
                         true &&
                       chk
                         (decide
                               (sgn
                                     (decide
                                       (sgn (decide (q < 0)) (numW (digits q.natAbs).length (digits q.natAbs)) *
                                           sgn false (numW (digits (2 ^ Int.toNat 32)).length (digits (2 ^ Int.toNat 32))) <
                                         0))
                                     (numW
                                       (digits
                                           (sgn (decide (q < 0)) (numW (digits q.natAbs).length (digits q.natAbs)) *
                                               sgn false
                                                 (numW (digits (2 ^ Int.toNat 32)).length
                                                   (digits (2 ^ Int.toNat 32)))).natAbs).length
                                       (digits
                                         (sgn (decide (q < 0)) (numW (digits q.natAbs).length (digits q.natAbs)) *
                                             sgn false
                                               (numW (digits (2 ^ Int.toNat 32)).length
                                                 (digits (2 ^ Int.toNat 32)))).natAbs)) +
                                   sgn (decide (low < 0)) (numW (digits low.natAbs).length (digits low.natAbs)) <
                                 0) =
                             true →
                           0 <
                             numW
                               (digits
                                   (sgn
                                         (decide
                                           (sgn (decide (q < 0)) (numW (digits q.natAbs).length (digits q.natAbs)) *
                                               sgn false
                                                 (numW (digits (2 ^ Int.toNat 32)).length (digits (2 ^ Int.toNat 32))) <
                                             0))
                                         (numW
                                           (digits
                                               (sgn (decide (q < 0)) (numW (digits q.natAbs).length (digits q.natAbs)) *
                                                   sgn false
                                                     (numW (digits (2 ^ Int.toNat 32)).length
                                                       (digits (2 ^ Int.toNat 32)))).natAbs).length
                                           (digits
                                             (sgn (decide (q < 0)) (numW (digits q.natAbs).length (digits q.natAbs)) *
                                                 sgn false
                                                   (numW (digits (2 ^ Int.toNat 32)).length
                                                     (digits (2 ^ Int.toNat 32)))).natAbs)) +
                                       sgn (decide (low < 0))
                                         (numW (digits low.natAbs).length (digits low.natAbs))).natAbs).length
                               (digits
                                 (sgn
                                       (decide
                                         (sgn (decide (q < 0)) (numW (digits q.natAbs).length (digits q.natAbs)) *
                                             sgn false
                                               (numW (digits (2 ^ Int.toNat 32)).length (digits (2 ^ Int.toNat 32))) <
                                           0))
                                       (numW
                                         (digits
                                             (sgn (decide (q < 0)) (numW (digits q.natAbs).length (digits q.natAbs)) *
                                                 sgn false
                                                   (numW (digits (2 ^ Int.toNat 32)).length
                                                     (digits (2 ^ Int.toNat 32)))).natAbs).length
                                         (digits
                                           (sgn (decide (q < 0)) (numW (digits q.natAbs).length (digits q.natAbs)) *
                                               sgn false
                                                 (numW (digits (2 ^ Int.toNat 32)).length
                                                   (digits (2 ^ Int.toNat 32)))).natAbs)) +
                                     sgn (decide (low < 0))
                                       (numW (digits low.natAbs).length (digits low.natAbs))).natAbs)) &&
                     chk
                       (decide (9223372036854775807 < 0) = true →
                         0 <
                           numW (digits (Int.natAbs 9223372036854775807)).length
                             (digits (Int.natAbs 9223372036854775807))) then
                 bif
                     decide
                       (cmpZ
                           (sgn
                             (decide
                               (sgn
                                     (decide
                                       (sgn (decide (q < 0)) (numW (digits q.natAbs).length (digits q.natAbs)) * 4294967296 <
                                         0))
                                     (numW
                                       (digits
                                           (sgn (decide (q < 0)) (numW (digits q.natAbs).length (digits q.natAbs)) *
                                               4294967296).natAbs).length
                                       (digits
                                         (sgn (decide (q < 0)) (numW (digits q.natAbs).length (digits q.natAbs)) *
                                             4294967296).natAbs)) +
                                   sgn (decide (low < 0)) (numW (digits low.natAbs).length (digits low.natAbs)) <
                                 0))
                             (numW
                               (digits
                                   (sgn
                                         (decide
                                           (sgn (decide (q < 0)) (numW (digits q.natAbs).length (digits q.natAbs)) *
                                               4294967296 <
                                             0))
                                         (numW
                                           (digits
                                               (sgn (decide (q < 0)) (numW (digits q.natAbs).length (digits q.natAbs)) *
                                                   4294967296).natAbs).length
                                           (digits
                                             (sgn (decide (q < 0)) (numW (digits q.natAbs).length (digits q.natAbs)) *
                                                 4294967296).natAbs)) +
                                       sgn (decide (low < 0))
                                         (numW (digits low.natAbs).length (digits low.natAbs))).natAbs).length
                               (digits
                                 (sgn
                                       (decide
                                         (sgn (decide (q < 0)) (numW (digits q.natAbs).length (digits q.natAbs)) *
                                             4294967296 <
                                           0))
                                       (numW
                                         (digits
                                             (sgn (decide (q < 0)) (numW (digits q.natAbs).length (digits q.natAbs)) *
                                                 4294967296).natAbs).length
                                         (digits
                                           (sgn (decide (q < 0)) (numW (digits q.natAbs).length (digits q.natAbs)) *
                                               4294967296).natAbs)) +
                                     sgn (decide (low < 0)) (numW (digits low.natAbs).length (digits low.natAbs))).natAbs)))
                           9223372036854775807 >
                         0) then
                   on
                     [Value.int IntKind.i64 p, Value.int IntKind.i64 low, Value.int IntKind.i64 ns, Value.int IntKind.i64 e,
                       Value.pointer (some (Addr.mk 0 0 none)), Value.bool false,
                       Value.int IntKind.i64 (IntKind.i64.wrap (q + 1))]
                     [some (Blk.mk true 2 [Seg.vals [Value.bool false, Value.slice none 0 0]])]
                 else
                   on
                     [Value.int IntKind.i64 p, Value.int IntKind.i64 low, Value.int IntKind.i64 ns, Value.int IntKind.i64 e,
                       Value.pointer (some (Addr.mk 0 0 none)), Value.bool true,
                       Value.int IntKind.i64 (IntKind.i64.wrap (q + 1))]
                     [some
                         (Blk.mk true 2
                           [Seg.vals
                               [Value.bool
                                   (decide
                                     (sgn
                                           (decide
                                             (sgn (decide (q < 0)) (numW (digits q.natAbs).length (digits q.natAbs)) *
                                                 4294967296 <
                                               0))
                                           (numW
                                             (digits
                                                 (sgn (decide (q < 0)) (numW (digits q.natAbs).length (digits q.natAbs)) *
                                                     4294967296).natAbs).length
                                             (digits
                                               (sgn (decide (q < 0)) (numW (digits q.natAbs).length (digits q.natAbs)) *
                                                   4294967296).natAbs)) +
                                         sgn (decide (low < 0)) (numW (digits low.natAbs).length (digits low.natAbs)) <
                                       0)),
                                 Value.slice (some (Addr.mk 1 0 none))
                                   (digits
                                       (sgn
                                             (decide
                                               (sgn (decide (q < 0)) (numW (digits q.natAbs).length (digits q.natAbs)) *
                                                   4294967296 <
                                                 0))
                                             (numW
                                               (digits
                                                   (sgn (decide (q < 0)) (numW (digits q.natAbs).length (digits q.natAbs)) *
                                                       4294967296).natAbs).length
                                               (digits
                                                 (sgn (decide (q < 0)) (numW (digits q.natAbs).length (digits q.natAbs)) *
                                                     4294967296).natAbs)) +
                                           sgn (decide (low < 0))
                                             (numW (digits low.natAbs).length (digits low.natAbs))).natAbs).length
                                   2]]),
                       some
                         (Blk.mk true 1
                           [Seg.ints IntKind.u64
                               (digits
                                   (sgn
                                         (decide
                                           (sgn (decide (q < 0)) (numW (digits q.natAbs).length (digits q.natAbs)) *
                                               4294967296 <
                                             0))
                                         (numW
                                           (digits
                                               (sgn (decide (q < 0)) (numW (digits q.natAbs).length (digits q.natAbs)) *
                                                   4294967296).natAbs).length
                                           (digits
                                             (sgn (decide (q < 0)) (numW (digits q.natAbs).length (digits q.natAbs)) *
                                                 4294967296).natAbs)) +
                                       sgn (decide (low < 0))
                                         (numW (digits low.natAbs).length (digits low.natAbs))).natAbs).length
                               (digits
                                 (sgn
                                       (decide
                                         (sgn (decide (q < 0)) (numW (digits q.natAbs).length (digits q.natAbs)) *
                                             4294967296 <
                                           0))
                                       (numW
                                         (digits
                                             (sgn (decide (q < 0)) (numW (digits q.natAbs).length (digits q.natAbs)) *
                                                 4294967296).natAbs).length
                                         (digits
                                           (sgn (decide (q < 0)) (numW (digits q.natAbs).length (digits q.natAbs)) *
                                               4294967296).natAbs)) +
                                     sgn (decide (low < 0)) (numW (digits low.natAbs).length (digits low.natAbs))).natAbs)])]
               else none
           else none
         else none
       else none
     else
       out (Exit.exit 0)
         [Value.int IntKind.i64 p, Value.int IntKind.i64 low, Value.int IntKind.i64 ns, Value.int IntKind.i64 e,
           Value.pointer (some (Addr.mk 0 0 none)), Value.bool false, Value.int IntKind.i64 q]
         [some (Blk.mk true 2 [Seg.vals [Value.bool false, Value.slice none 0 0]])]) := by kernel_rfl
--CFEND
--CF cf40B (p low ns e q z : Int) (on : List Value → Heap → Out) (out : Exit → List Value → Heap → Out) :: roundK Try.prog S40 noL Try.f40.ntmps 0 (loopOf Try.f40 0) live40 [w63 p, w63 low, w63 ns, w63 e, pt 0, .bool true, w63 q] [bx (decide (z < 0)) 1 (digits z.natAbs).length 2, zB z] on out
theorem cf40B (p low ns e q z : Int) (on : List Value → Heap → Out) (out : Exit → List Value → Heap → Out) : roundK Try.prog S40 noL Try.f40.ntmps 0 (loopOf Try.f40 0) live40 [w63 p, w63 low, w63 ns, w63 e, pt 0, .bool true, w63 q] [bx (decide (z < 0)) 1 (digits z.natAbs).length 2, zB z] on out =
    (bif decide (q ≤ IntKind.i64.wrap (e + 1)) then
       bif
           normB (digits q.natAbs).length (digits q.natAbs) && normB 2 (digits 4294967296) &&
                   (digits q.natAbs).length.ble (digits q.natAbs).length &&
                 true &&
               (digits q.natAbs).length.ble (OfNat.ofNat 400000) &&
             true then
         bif
             normB
                         (digits
                             (sgn (decide (q < 0)) (numW (digits q.natAbs).length (digits q.natAbs)) *
                                 4294967296).natAbs).length
                         (digits
                           (sgn (decide (q < 0)) (numW (digits q.natAbs).length (digits q.natAbs)) * 4294967296).natAbs) &&
                       normB (digits low.natAbs).length (digits low.natAbs) &&
                     (digits
                             (sgn (decide (q < 0)) (numW (digits q.natAbs).length (digits q.natAbs)) *
                                 4294967296).natAbs).length.ble
                       (digits
                           (sgn (decide (q < 0)) (numW (digits q.natAbs).length (digits q.natAbs)) *
                               4294967296).natAbs).length &&
                   (digits low.natAbs).length.ble (digits low.natAbs).length &&
                 (digits
                         (sgn (decide (q < 0)) (numW (digits q.natAbs).length (digits q.natAbs)) *
                             4294967296).natAbs).length.ble
                   (OfNat.ofNat 400000) &&
               (digits low.natAbs).length.ble (OfNat.ofNat 400000) then
           bif
               normB
                           (digits
                               (sgn
                                     (decide
                                       (sgn (decide (q < 0)) (numW (digits q.natAbs).length (digits q.natAbs)) * 4294967296 <
                                         0))
                                     (numW
                                       (digits
                                           (sgn (decide (q < 0)) (numW (digits q.natAbs).length (digits q.natAbs)) *
                                               4294967296).natAbs).length
                                       (digits
                                         (sgn (decide (q < 0)) (numW (digits q.natAbs).length (digits q.natAbs)) *
                                             4294967296).natAbs)) +
                                   sgn (decide (low < 0))
                                     (numW (digits low.natAbs).length (digits low.natAbs))).natAbs).length
                           (digits
                             (sgn
                                   (decide
                                     (sgn (decide (q < 0)) (numW (digits q.natAbs).length (digits q.natAbs)) * 4294967296 <
                                       0))
                                   (numW
                                     (digits
                                         (sgn (decide (q < 0)) (numW (digits q.natAbs).length (digits q.natAbs)) *
                                             4294967296).natAbs).length
                                     (digits
                                       (sgn (decide (q < 0)) (numW (digits q.natAbs).length (digits q.natAbs)) *
                                           4294967296).natAbs)) +
                                 sgn (decide (low < 0)) (numW (digits low.natAbs).length (digits low.natAbs))).natAbs) &&
                         normB 2 (digits 9223372036854775808) &&
                       (digits
                               (sgn
                                     (decide
                                       (sgn (decide (q < 0)) (numW (digits q.natAbs).length (digits q.natAbs)) * 4294967296 <
                                         0))
                                     (numW
                                       (digits
                                           (sgn (decide (q < 0)) (numW (digits q.natAbs).length (digits q.natAbs)) *
                                               4294967296).natAbs).length
                                       (digits
                                         (sgn (decide (q < 0)) (numW (digits q.natAbs).length (digits q.natAbs)) *
                                             4294967296).natAbs)) +
                                   sgn (decide (low < 0))
                                     (numW (digits low.natAbs).length (digits low.natAbs))).natAbs).length.ble
                         (digits
                             (sgn
                                   (decide
                                     (sgn (decide (q < 0)) (numW (digits q.natAbs).length (digits q.natAbs)) * 4294967296 <
                                       0))
                                   (numW
                                     (digits
                                         (sgn (decide (q < 0)) (numW (digits q.natAbs).length (digits q.natAbs)) *
                                             4294967296).natAbs).length
                                     (digits
                                       (sgn (decide (q < 0)) (numW (digits q.natAbs).length (digits q.natAbs)) *
                                           4294967296).natAbs)) +
                                 sgn (decide (low < 0))
                                   (numW (digits low.natAbs).length (digits low.natAbs))).natAbs).length &&
                     true &&
                   chk
                     (decide
                           (sgn
                                 (decide
                                   (sgn (decide (q < 0)) (numW (digits q.natAbs).length (digits q.natAbs)) *
                                       sgn false (numW (digits (2 ^ Int.toNat 32)).length (digits (2 ^ Int.toNat 32))) <
                                     0))
                                 (numW
                                   (digits
                                       (sgn (decide (q < 0)) (numW (digits q.natAbs).length (digits q.natAbs)) *
                                           sgn false
                                             (numW (digits (2 ^ Int.toNat 32)).length
                                               (digits (2 ^ Int.toNat 32)))).natAbs).length
                                   (digits
                                     (sgn (decide (q < 0)) (numW (digits q.natAbs).length (digits q.natAbs)) *
                                         sgn false
                                           (numW (digits (2 ^ Int.toNat 32)).length (digits (2 ^ Int.toNat 32)))).natAbs)) +
                               sgn (decide (low < 0)) (numW (digits low.natAbs).length (digits low.natAbs)) <
                             0) =
                         true →
                       0 <
                         numW
                           (digits
                               (sgn
                                     (decide
                                       (sgn (decide (q < 0)) (numW (digits q.natAbs).length (digits q.natAbs)) *
                                           sgn false (numW (digits (2 ^ Int.toNat 32)).length (digits (2 ^ Int.toNat 32))) <
                                         0))
                                     (numW
                                       (digits
                                           (sgn (decide (q < 0)) (numW (digits q.natAbs).length (digits q.natAbs)) *
                                               sgn false
                                                 (numW (digits (2 ^ Int.toNat 32)).length
                                                   (digits (2 ^ Int.toNat 32)))).natAbs).length
                                       (digits
                                         (sgn (decide (q < 0)) (numW (digits q.natAbs).length (digits q.natAbs)) *
                                             sgn false
                                               (numW (digits (2 ^ Int.toNat 32)).length
                                                 (digits (2 ^ Int.toNat 32)))).natAbs)) +
                                   sgn (decide (low < 0))
                                     (numW (digits low.natAbs).length (digits low.natAbs))).natAbs).length
                           (digits
                             (sgn
                                   (decide
                                     (sgn (decide (q < 0)) (numW (digits q.natAbs).length (digits q.natAbs)) *
                                         sgn false (numW (digits (2 ^ Int.toNat 32)).length (digits (2 ^ Int.toNat 32))) <
                                       0))
                                   (numW
                                     (digits
                                         (sgn (decide (q < 0)) (numW (digits q.natAbs).length (digits q.natAbs)) *
                                             sgn false
                                               (numW (digits (2 ^ Int.toNat 32)).length
                                                 (digits (2 ^ Int.toNat 32)))).natAbs).length
                                     (digits
                                       (sgn (decide (q < 0)) (numW (digits q.natAbs).length (digits q.natAbs)) *
                                           sgn false
                                             (numW (digits (2 ^ Int.toNat 32)).length
                                               (digits (2 ^ Int.toNat 32)))).natAbs)) +
                                 sgn (decide (low < 0)) (numW (digits low.natAbs).length (digits low.natAbs))).natAbs)) &&
                 chk
                   (decide (-9223372036854775808 < 0) = true →
                     0 < numW (digits (-9223372036854775808).natAbs).length (digits (-9223372036854775808).natAbs)) then
             bif
                 decide
                   (cmpZ
                       (sgn
                         (decide
                           (sgn
                                 (decide
                                   (sgn (decide (q < 0)) (numW (digits q.natAbs).length (digits q.natAbs)) * 4294967296 < 0))
                                 (numW
                                   (digits
                                       (sgn (decide (q < 0)) (numW (digits q.natAbs).length (digits q.natAbs)) *
                                           4294967296).natAbs).length
                                   (digits
                                     (sgn (decide (q < 0)) (numW (digits q.natAbs).length (digits q.natAbs)) *
                                         4294967296).natAbs)) +
                               sgn (decide (low < 0)) (numW (digits low.natAbs).length (digits low.natAbs)) <
                             0))
                         (numW
                           (digits
                               (sgn
                                     (decide
                                       (sgn (decide (q < 0)) (numW (digits q.natAbs).length (digits q.natAbs)) * 4294967296 <
                                         0))
                                     (numW
                                       (digits
                                           (sgn (decide (q < 0)) (numW (digits q.natAbs).length (digits q.natAbs)) *
                                               4294967296).natAbs).length
                                       (digits
                                         (sgn (decide (q < 0)) (numW (digits q.natAbs).length (digits q.natAbs)) *
                                             4294967296).natAbs)) +
                                   sgn (decide (low < 0))
                                     (numW (digits low.natAbs).length (digits low.natAbs))).natAbs).length
                           (digits
                             (sgn
                                   (decide
                                     (sgn (decide (q < 0)) (numW (digits q.natAbs).length (digits q.natAbs)) * 4294967296 <
                                       0))
                                   (numW
                                     (digits
                                         (sgn (decide (q < 0)) (numW (digits q.natAbs).length (digits q.natAbs)) *
                                             4294967296).natAbs).length
                                     (digits
                                       (sgn (decide (q < 0)) (numW (digits q.natAbs).length (digits q.natAbs)) *
                                           4294967296).natAbs)) +
                                 sgn (decide (low < 0)) (numW (digits low.natAbs).length (digits low.natAbs))).natAbs)))
                       (-9223372036854775808) <
                     0) then
               on
                 [Value.int IntKind.i64 p, Value.int IntKind.i64 low, Value.int IntKind.i64 ns, Value.int IntKind.i64 e,
                   Value.pointer (some (Addr.mk 0 0 none)), Value.bool true,
                   Value.int IntKind.i64 (IntKind.i64.wrap (q + 1))]
                 [some
                     (Blk.mk true 2
                       [Seg.vals
                           [Value.bool (decide (z < 0)), Value.slice (some (Addr.mk 1 0 none)) (digits z.natAbs).length 2]]),
                   some (Blk.mk true 1 [Seg.ints IntKind.u64 (digits z.natAbs).length (digits z.natAbs)])]
             else
               bif
                   normB
                               (digits
                                   (sgn
                                         (decide
                                           (sgn (decide (q < 0)) (numW (digits q.natAbs).length (digits q.natAbs)) *
                                               4294967296 <
                                             0))
                                         (numW
                                           (digits
                                               (sgn (decide (q < 0)) (numW (digits q.natAbs).length (digits q.natAbs)) *
                                                   4294967296).natAbs).length
                                           (digits
                                             (sgn (decide (q < 0)) (numW (digits q.natAbs).length (digits q.natAbs)) *
                                                 4294967296).natAbs)) +
                                       sgn (decide (low < 0))
                                         (numW (digits low.natAbs).length (digits low.natAbs))).natAbs).length
                               (digits
                                 (sgn
                                       (decide
                                         (sgn (decide (q < 0)) (numW (digits q.natAbs).length (digits q.natAbs)) *
                                             4294967296 <
                                           0))
                                       (numW
                                         (digits
                                             (sgn (decide (q < 0)) (numW (digits q.natAbs).length (digits q.natAbs)) *
                                                 4294967296).natAbs).length
                                         (digits
                                           (sgn (decide (q < 0)) (numW (digits q.natAbs).length (digits q.natAbs)) *
                                               4294967296).natAbs)) +
                                     sgn (decide (low < 0)) (numW (digits low.natAbs).length (digits low.natAbs))).natAbs) &&
                             normB 2 (digits 9223372036854775807) &&
                           (digits
                                   (sgn
                                         (decide
                                           (sgn (decide (q < 0)) (numW (digits q.natAbs).length (digits q.natAbs)) *
                                               4294967296 <
                                             0))
                                         (numW
                                           (digits
                                               (sgn (decide (q < 0)) (numW (digits q.natAbs).length (digits q.natAbs)) *
                                                   4294967296).natAbs).length
                                           (digits
                                             (sgn (decide (q < 0)) (numW (digits q.natAbs).length (digits q.natAbs)) *
                                                 4294967296).natAbs)) +
                                       sgn (decide (low < 0))
                                         (numW (digits low.natAbs).length (digits low.natAbs))).natAbs).length.ble
                             (digits
                                 (sgn
                                       (decide
                                         (sgn (decide (q < 0)) (numW (digits q.natAbs).length (digits q.natAbs)) *
                                             4294967296 <
                                           0))
                                       (numW
                                         (digits
                                             (sgn (decide (q < 0)) (numW (digits q.natAbs).length (digits q.natAbs)) *
                                                 4294967296).natAbs).length
                                         (digits
                                           (sgn (decide (q < 0)) (numW (digits q.natAbs).length (digits q.natAbs)) *
                                               4294967296).natAbs)) +
                                     sgn (decide (low < 0))
                                       (numW (digits low.natAbs).length (digits low.natAbs))).natAbs).length &&
                         true &&
                       chk
                         (decide
                               (sgn
                                     (decide
                                       (sgn (decide (q < 0)) (numW (digits q.natAbs).length (digits q.natAbs)) *
                                           sgn false (numW (digits (2 ^ Int.toNat 32)).length (digits (2 ^ Int.toNat 32))) <
                                         0))
                                     (numW
                                       (digits
                                           (sgn (decide (q < 0)) (numW (digits q.natAbs).length (digits q.natAbs)) *
                                               sgn false
                                                 (numW (digits (2 ^ Int.toNat 32)).length
                                                   (digits (2 ^ Int.toNat 32)))).natAbs).length
                                       (digits
                                         (sgn (decide (q < 0)) (numW (digits q.natAbs).length (digits q.natAbs)) *
                                             sgn false
                                               (numW (digits (2 ^ Int.toNat 32)).length
                                                 (digits (2 ^ Int.toNat 32)))).natAbs)) +
                                   sgn (decide (low < 0)) (numW (digits low.natAbs).length (digits low.natAbs)) <
                                 0) =
                             true →
                           0 <
                             numW
                               (digits
                                   (sgn
                                         (decide
                                           (sgn (decide (q < 0)) (numW (digits q.natAbs).length (digits q.natAbs)) *
                                               sgn false
                                                 (numW (digits (2 ^ Int.toNat 32)).length (digits (2 ^ Int.toNat 32))) <
                                             0))
                                         (numW
                                           (digits
                                               (sgn (decide (q < 0)) (numW (digits q.natAbs).length (digits q.natAbs)) *
                                                   sgn false
                                                     (numW (digits (2 ^ Int.toNat 32)).length
                                                       (digits (2 ^ Int.toNat 32)))).natAbs).length
                                           (digits
                                             (sgn (decide (q < 0)) (numW (digits q.natAbs).length (digits q.natAbs)) *
                                                 sgn false
                                                   (numW (digits (2 ^ Int.toNat 32)).length
                                                     (digits (2 ^ Int.toNat 32)))).natAbs)) +
                                       sgn (decide (low < 0))
                                         (numW (digits low.natAbs).length (digits low.natAbs))).natAbs).length
                               (digits
                                 (sgn
                                       (decide
                                         (sgn (decide (q < 0)) (numW (digits q.natAbs).length (digits q.natAbs)) *
                                             sgn false
                                               (numW (digits (2 ^ Int.toNat 32)).length (digits (2 ^ Int.toNat 32))) <
                                           0))
                                       (numW
                                         (digits
                                             (sgn (decide (q < 0)) (numW (digits q.natAbs).length (digits q.natAbs)) *
                                                 sgn false
                                                   (numW (digits (2 ^ Int.toNat 32)).length
                                                     (digits (2 ^ Int.toNat 32)))).natAbs).length
                                         (digits
                                           (sgn (decide (q < 0)) (numW (digits q.natAbs).length (digits q.natAbs)) *
                                               sgn false
                                                 (numW (digits (2 ^ Int.toNat 32)).length
                                                   (digits (2 ^ Int.toNat 32)))).natAbs)) +
                                     sgn (decide (low < 0))
                                       (numW (digits low.natAbs).length (digits low.natAbs))).natAbs)) &&
                     chk
                       (decide (9223372036854775807 < 0) = true →
                         0 <
                           numW (digits (Int.natAbs 9223372036854775807)).length
                             (digits (Int.natAbs 9223372036854775807))) then
                 bif
                     decide
                       (cmpZ
                           (sgn
                             (decide
                               (sgn
                                     (decide
                                       (sgn (decide (q < 0)) (numW (digits q.natAbs).length (digits q.natAbs)) * 4294967296 <
                                         0))
                                     (numW
                                       (digits
                                           (sgn (decide (q < 0)) (numW (digits q.natAbs).length (digits q.natAbs)) *
                                               4294967296).natAbs).length
                                       (digits
                                         (sgn (decide (q < 0)) (numW (digits q.natAbs).length (digits q.natAbs)) *
                                             4294967296).natAbs)) +
                                   sgn (decide (low < 0)) (numW (digits low.natAbs).length (digits low.natAbs)) <
                                 0))
                             (numW
                               (digits
                                   (sgn
                                         (decide
                                           (sgn (decide (q < 0)) (numW (digits q.natAbs).length (digits q.natAbs)) *
                                               4294967296 <
                                             0))
                                         (numW
                                           (digits
                                               (sgn (decide (q < 0)) (numW (digits q.natAbs).length (digits q.natAbs)) *
                                                   4294967296).natAbs).length
                                           (digits
                                             (sgn (decide (q < 0)) (numW (digits q.natAbs).length (digits q.natAbs)) *
                                                 4294967296).natAbs)) +
                                       sgn (decide (low < 0))
                                         (numW (digits low.natAbs).length (digits low.natAbs))).natAbs).length
                               (digits
                                 (sgn
                                       (decide
                                         (sgn (decide (q < 0)) (numW (digits q.natAbs).length (digits q.natAbs)) *
                                             4294967296 <
                                           0))
                                       (numW
                                         (digits
                                             (sgn (decide (q < 0)) (numW (digits q.natAbs).length (digits q.natAbs)) *
                                                 4294967296).natAbs).length
                                         (digits
                                           (sgn (decide (q < 0)) (numW (digits q.natAbs).length (digits q.natAbs)) *
                                               4294967296).natAbs)) +
                                     sgn (decide (low < 0)) (numW (digits low.natAbs).length (digits low.natAbs))).natAbs)))
                           9223372036854775807 >
                         0) then
                   on
                     [Value.int IntKind.i64 p, Value.int IntKind.i64 low, Value.int IntKind.i64 ns, Value.int IntKind.i64 e,
                       Value.pointer (some (Addr.mk 0 0 none)), Value.bool true,
                       Value.int IntKind.i64 (IntKind.i64.wrap (q + 1))]
                     [some
                         (Blk.mk true 2
                           [Seg.vals
                               [Value.bool (decide (z < 0)),
                                 Value.slice (some (Addr.mk 1 0 none)) (digits z.natAbs).length 2]]),
                       some (Blk.mk true 1 [Seg.ints IntKind.u64 (digits z.natAbs).length (digits z.natAbs)])]
                 else
                   bif
                       normB
                             (digits
                                 (sgn
                                       (decide
                                         (sgn (decide (q < 0)) (numW (digits q.natAbs).length (digits q.natAbs)) *
                                             4294967296 <
                                           0))
                                       (numW
                                         (digits
                                             (sgn (decide (q < 0)) (numW (digits q.natAbs).length (digits q.natAbs)) *
                                                 4294967296).natAbs).length
                                         (digits
                                           (sgn (decide (q < 0)) (numW (digits q.natAbs).length (digits q.natAbs)) *
                                               4294967296).natAbs)) +
                                     sgn (decide (low < 0))
                                       (numW (digits low.natAbs).length (digits low.natAbs))).natAbs).length
                             (digits
                               (sgn
                                     (decide
                                       (sgn (decide (q < 0)) (numW (digits q.natAbs).length (digits q.natAbs)) * 4294967296 <
                                         0))
                                     (numW
                                       (digits
                                           (sgn (decide (q < 0)) (numW (digits q.natAbs).length (digits q.natAbs)) *
                                               4294967296).natAbs).length
                                       (digits
                                         (sgn (decide (q < 0)) (numW (digits q.natAbs).length (digits q.natAbs)) *
                                             4294967296).natAbs)) +
                                   sgn (decide (low < 0)) (numW (digits low.natAbs).length (digits low.natAbs))).natAbs) &&
                           (digits
                                   (sgn
                                         (decide
                                           (sgn (decide (q < 0)) (numW (digits q.natAbs).length (digits q.natAbs)) *
                                               4294967296 <
                                             0))
                                         (numW
                                           (digits
                                               (sgn (decide (q < 0)) (numW (digits q.natAbs).length (digits q.natAbs)) *
                                                   4294967296).natAbs).length
                                           (digits
                                             (sgn (decide (q < 0)) (numW (digits q.natAbs).length (digits q.natAbs)) *
                                                 4294967296).natAbs)) +
                                       sgn (decide (low < 0))
                                         (numW (digits low.natAbs).length (digits low.natAbs))).natAbs).length.ble
                             (digits
                                 (sgn
                                       (decide
                                         (sgn (decide (q < 0)) (numW (digits q.natAbs).length (digits q.natAbs)) *
                                             4294967296 <
                                           0))
                                       (numW
                                         (digits
                                             (sgn (decide (q < 0)) (numW (digits q.natAbs).length (digits q.natAbs)) *
                                                 4294967296).natAbs).length
                                         (digits
                                           (sgn (decide (q < 0)) (numW (digits q.natAbs).length (digits q.natAbs)) *
                                               4294967296).natAbs)) +
                                     sgn (decide (low < 0))
                                       (numW (digits low.natAbs).length (digits low.natAbs))).natAbs).length &&
                         (digits
                                 (sgn
                                       (decide
                                         (sgn (decide (q < 0)) (numW (digits q.natAbs).length (digits q.natAbs)) *
                                             4294967296 <
                                           0))
                                       (numW
                                         (digits
                                             (sgn (decide (q < 0)) (numW (digits q.natAbs).length (digits q.natAbs)) *
                                                 4294967296).natAbs).length
                                         (digits
                                           (sgn (decide (q < 0)) (numW (digits q.natAbs).length (digits q.natAbs)) *
                                               4294967296).natAbs)) +
                                     sgn (decide (low < 0))
                                       (numW (digits low.natAbs).length (digits low.natAbs))).natAbs).length.ble
                           (OfNat.ofNat 400000) then
                     bif
                         normB (digits z.natAbs).length (digits z.natAbs) &&
                             (digits z.natAbs).length.ble (digits z.natAbs).length &&
                           (digits z.natAbs).length.ble (OfNat.ofNat 400000) then
                       bif
                           normB
                                       (digits
                                           (sgn
                                                 (decide
                                                   (sgn
                                                         (decide
                                                           (sgn (decide (q < 0))
                                                                 (numW (digits q.natAbs).length (digits q.natAbs)) *
                                                               4294967296 <
                                                             0))
                                                         (numW
                                                           (digits
                                                               (sgn (decide (q < 0))
                                                                     (numW (digits q.natAbs).length (digits q.natAbs)) *
                                                                   4294967296).natAbs).length
                                                           (digits
                                                             (sgn (decide (q < 0))
                                                                   (numW (digits q.natAbs).length (digits q.natAbs)) *
                                                                 4294967296).natAbs)) +
                                                       sgn (decide (low < 0))
                                                         (numW (digits low.natAbs).length (digits low.natAbs)) <
                                                     0))
                                                 (numW
                                                   (digits
                                                       (sgn
                                                             (decide
                                                               (sgn (decide (q < 0))
                                                                     (numW (digits q.natAbs).length (digits q.natAbs)) *
                                                                   4294967296 <
                                                                 0))
                                                             (numW
                                                               (digits
                                                                   (sgn (decide (q < 0))
                                                                         (numW (digits q.natAbs).length (digits q.natAbs)) *
                                                                       4294967296).natAbs).length
                                                               (digits
                                                                 (sgn (decide (q < 0))
                                                                       (numW (digits q.natAbs).length (digits q.natAbs)) *
                                                                     4294967296).natAbs)) +
                                                           sgn (decide (low < 0))
                                                             (numW (digits low.natAbs).length
                                                               (digits low.natAbs))).natAbs).length
                                                   (digits
                                                     (sgn
                                                           (decide
                                                             (sgn (decide (q < 0))
                                                                   (numW (digits q.natAbs).length (digits q.natAbs)) *
                                                                 4294967296 <
                                                               0))
                                                           (numW
                                                             (digits
                                                                 (sgn (decide (q < 0))
                                                                       (numW (digits q.natAbs).length (digits q.natAbs)) *
                                                                     4294967296).natAbs).length
                                                             (digits
                                                               (sgn (decide (q < 0))
                                                                     (numW (digits q.natAbs).length (digits q.natAbs)) *
                                                                   4294967296).natAbs)) +
                                                         sgn (decide (low < 0))
                                                           (numW (digits low.natAbs).length (digits low.natAbs))).natAbs)) -
                                               p).natAbs).length
                                       (digits
                                         (sgn
                                               (decide
                                                 (sgn
                                                       (decide
                                                         (sgn (decide (q < 0))
                                                               (numW (digits q.natAbs).length (digits q.natAbs)) *
                                                             4294967296 <
                                                           0))
                                                       (numW
                                                         (digits
                                                             (sgn (decide (q < 0))
                                                                   (numW (digits q.natAbs).length (digits q.natAbs)) *
                                                                 4294967296).natAbs).length
                                                         (digits
                                                           (sgn (decide (q < 0))
                                                                 (numW (digits q.natAbs).length (digits q.natAbs)) *
                                                               4294967296).natAbs)) +
                                                     sgn (decide (low < 0))
                                                       (numW (digits low.natAbs).length (digits low.natAbs)) <
                                                   0))
                                               (numW
                                                 (digits
                                                     (sgn
                                                           (decide
                                                             (sgn (decide (q < 0))
                                                                   (numW (digits q.natAbs).length (digits q.natAbs)) *
                                                                 4294967296 <
                                                               0))
                                                           (numW
                                                             (digits
                                                                 (sgn (decide (q < 0))
                                                                       (numW (digits q.natAbs).length (digits q.natAbs)) *
                                                                     4294967296).natAbs).length
                                                             (digits
                                                               (sgn (decide (q < 0))
                                                                     (numW (digits q.natAbs).length (digits q.natAbs)) *
                                                                   4294967296).natAbs)) +
                                                         sgn (decide (low < 0))
                                                           (numW (digits low.natAbs).length
                                                             (digits low.natAbs))).natAbs).length
                                                 (digits
                                                   (sgn
                                                         (decide
                                                           (sgn (decide (q < 0))
                                                                 (numW (digits q.natAbs).length (digits q.natAbs)) *
                                                               4294967296 <
                                                             0))
                                                         (numW
                                                           (digits
                                                               (sgn (decide (q < 0))
                                                                     (numW (digits q.natAbs).length (digits q.natAbs)) *
                                                                   4294967296).natAbs).length
                                                           (digits
                                                             (sgn (decide (q < 0))
                                                                   (numW (digits q.natAbs).length (digits q.natAbs)) *
                                                                 4294967296).natAbs)) +
                                                       sgn (decide (low < 0))
                                                         (numW (digits low.natAbs).length (digits low.natAbs))).natAbs)) -
                                             p).natAbs) &&
                                     normB
                                       (digits
                                           (sgn (decide (z < 0)) (numW (digits z.natAbs).length (digits z.natAbs)) -
                                               p).natAbs).length
                                       (digits
                                         (sgn (decide (z < 0)) (numW (digits z.natAbs).length (digits z.natAbs)) -
                                             p).natAbs) &&
                                   (digits
                                           (sgn
                                                 (decide
                                                   (sgn
                                                         (decide
                                                           (sgn (decide (q < 0))
                                                                 (numW (digits q.natAbs).length (digits q.natAbs)) *
                                                               4294967296 <
                                                             0))
                                                         (numW
                                                           (digits
                                                               (sgn (decide (q < 0))
                                                                     (numW (digits q.natAbs).length (digits q.natAbs)) *
                                                                   4294967296).natAbs).length
                                                           (digits
                                                             (sgn (decide (q < 0))
                                                                   (numW (digits q.natAbs).length (digits q.natAbs)) *
                                                                 4294967296).natAbs)) +
                                                       sgn (decide (low < 0))
                                                         (numW (digits low.natAbs).length (digits low.natAbs)) <
                                                     0))
                                                 (numW
                                                   (digits
                                                       (sgn
                                                             (decide
                                                               (sgn (decide (q < 0))
                                                                     (numW (digits q.natAbs).length (digits q.natAbs)) *
                                                                   4294967296 <
                                                                 0))
                                                             (numW
                                                               (digits
                                                                   (sgn (decide (q < 0))
                                                                         (numW (digits q.natAbs).length (digits q.natAbs)) *
                                                                       4294967296).natAbs).length
                                                               (digits
                                                                 (sgn (decide (q < 0))
                                                                       (numW (digits q.natAbs).length (digits q.natAbs)) *
                                                                     4294967296).natAbs)) +
                                                           sgn (decide (low < 0))
                                                             (numW (digits low.natAbs).length
                                                               (digits low.natAbs))).natAbs).length
                                                   (digits
                                                     (sgn
                                                           (decide
                                                             (sgn (decide (q < 0))
                                                                   (numW (digits q.natAbs).length (digits q.natAbs)) *
                                                                 4294967296 <
                                                               0))
                                                           (numW
                                                             (digits
                                                                 (sgn (decide (q < 0))
                                                                       (numW (digits q.natAbs).length (digits q.natAbs)) *
                                                                     4294967296).natAbs).length
                                                             (digits
                                                               (sgn (decide (q < 0))
                                                                     (numW (digits q.natAbs).length (digits q.natAbs)) *
                                                                   4294967296).natAbs)) +
                                                         sgn (decide (low < 0))
                                                           (numW (digits low.natAbs).length (digits low.natAbs))).natAbs)) -
                                               p).natAbs).length.ble
                                     (digits
                                         (sgn
                                               (decide
                                                 (sgn
                                                       (decide
                                                         (sgn (decide (q < 0))
                                                               (numW (digits q.natAbs).length (digits q.natAbs)) *
                                                             4294967296 <
                                                           0))
                                                       (numW
                                                         (digits
                                                             (sgn (decide (q < 0))
                                                                   (numW (digits q.natAbs).length (digits q.natAbs)) *
                                                                 4294967296).natAbs).length
                                                         (digits
                                                           (sgn (decide (q < 0))
                                                                 (numW (digits q.natAbs).length (digits q.natAbs)) *
                                                               4294967296).natAbs)) +
                                                     sgn (decide (low < 0))
                                                       (numW (digits low.natAbs).length (digits low.natAbs)) <
                                                   0))
                                               (numW
                                                 (digits
                                                     (sgn
                                                           (decide
                                                             (sgn (decide (q < 0))
                                                                   (numW (digits q.natAbs).length (digits q.natAbs)) *
                                                                 4294967296 <
                                                               0))
                                                           (numW
                                                             (digits
                                                                 (sgn (decide (q < 0))
                                                                       (numW (digits q.natAbs).length (digits q.natAbs)) *
                                                                     4294967296).natAbs).length
                                                             (digits
                                                               (sgn (decide (q < 0))
                                                                     (numW (digits q.natAbs).length (digits q.natAbs)) *
                                                                   4294967296).natAbs)) +
                                                         sgn (decide (low < 0))
                                                           (numW (digits low.natAbs).length
                                                             (digits low.natAbs))).natAbs).length
                                                 (digits
                                                   (sgn
                                                         (decide
                                                           (sgn (decide (q < 0))
                                                                 (numW (digits q.natAbs).length (digits q.natAbs)) *
                                                               4294967296 <
                                                             0))
                                                         (numW
                                                           (digits
                                                               (sgn (decide (q < 0))
                                                                     (numW (digits q.natAbs).length (digits q.natAbs)) *
                                                                   4294967296).natAbs).length
                                                           (digits
                                                             (sgn (decide (q < 0))
                                                                   (numW (digits q.natAbs).length (digits q.natAbs)) *
                                                                 4294967296).natAbs)) +
                                                       sgn (decide (low < 0))
                                                         (numW (digits low.natAbs).length (digits low.natAbs))).natAbs)) -
                                             p).natAbs).length &&
                                 (digits
                                         (sgn (decide (z < 0)) (numW (digits z.natAbs).length (digits z.natAbs)) -
                                             p).natAbs).length.ble
                                   (digits
                                       (sgn (decide (z < 0)) (numW (digits z.natAbs).length (digits z.natAbs)) -
                                           p).natAbs).length &&
                               chk
                                 (false = true →
                                   0 <
                                     numW
                                       (digits
                                           (sgn
                                                 (decide
                                                   (sgn
                                                         (decide
                                                           (sgn (decide (q < 0))
                                                                 (numW (digits q.natAbs).length (digits q.natAbs)) *
                                                               sgn false
                                                                 (numW (digits (2 ^ Int.toNat 32)).length
                                                                   (digits (2 ^ Int.toNat 32))) <
                                                             0))
                                                         (numW
                                                           (digits
                                                               (sgn (decide (q < 0))
                                                                     (numW (digits q.natAbs).length (digits q.natAbs)) *
                                                                   sgn false
                                                                     (numW (digits (2 ^ Int.toNat 32)).length
                                                                       (digits (2 ^ Int.toNat 32)))).natAbs).length
                                                           (digits
                                                             (sgn (decide (q < 0))
                                                                   (numW (digits q.natAbs).length (digits q.natAbs)) *
                                                                 sgn false
                                                                   (numW (digits (2 ^ Int.toNat 32)).length
                                                                     (digits (2 ^ Int.toNat 32)))).natAbs)) +
                                                       sgn (decide (low < 0))
                                                         (numW (digits low.natAbs).length (digits low.natAbs)) <
                                                     0))
                                                 (numW
                                                   (digits
                                                       (sgn
                                                             (decide
                                                               (sgn (decide (q < 0))
                                                                     (numW (digits q.natAbs).length (digits q.natAbs)) *
                                                                   sgn false
                                                                     (numW (digits (2 ^ Int.toNat 32)).length
                                                                       (digits (2 ^ Int.toNat 32))) <
                                                                 0))
                                                             (numW
                                                               (digits
                                                                   (sgn (decide (q < 0))
                                                                         (numW (digits q.natAbs).length (digits q.natAbs)) *
                                                                       sgn false
                                                                         (numW (digits (2 ^ Int.toNat 32)).length
                                                                           (digits (2 ^ Int.toNat 32)))).natAbs).length
                                                               (digits
                                                                 (sgn (decide (q < 0))
                                                                       (numW (digits q.natAbs).length (digits q.natAbs)) *
                                                                     sgn false
                                                                       (numW (digits (2 ^ Int.toNat 32)).length
                                                                         (digits (2 ^ Int.toNat 32)))).natAbs)) +
                                                           sgn (decide (low < 0))
                                                             (numW (digits low.natAbs).length
                                                               (digits low.natAbs))).natAbs).length
                                                   (digits
                                                     (sgn
                                                           (decide
                                                             (sgn (decide (q < 0))
                                                                   (numW (digits q.natAbs).length (digits q.natAbs)) *
                                                                 sgn false
                                                                   (numW (digits (2 ^ Int.toNat 32)).length
                                                                     (digits (2 ^ Int.toNat 32))) <
                                                               0))
                                                           (numW
                                                             (digits
                                                                 (sgn (decide (q < 0))
                                                                       (numW (digits q.natAbs).length (digits q.natAbs)) *
                                                                     sgn false
                                                                       (numW (digits (2 ^ Int.toNat 32)).length
                                                                         (digits (2 ^ Int.toNat 32)))).natAbs).length
                                                             (digits
                                                               (sgn (decide (q < 0))
                                                                     (numW (digits q.natAbs).length (digits q.natAbs)) *
                                                                   sgn false
                                                                     (numW (digits (2 ^ Int.toNat 32)).length
                                                                       (digits (2 ^ Int.toNat 32)))).natAbs)) +
                                                         sgn (decide (low < 0))
                                                           (numW (digits low.natAbs).length (digits low.natAbs))).natAbs)) -
                                               p).natAbs).length
                                       (digits
                                         (sgn
                                               (decide
                                                 (sgn
                                                       (decide
                                                         (sgn (decide (q < 0))
                                                               (numW (digits q.natAbs).length (digits q.natAbs)) *
                                                             sgn false
                                                               (numW (digits (2 ^ Int.toNat 32)).length
                                                                 (digits (2 ^ Int.toNat 32))) <
                                                           0))
                                                       (numW
                                                         (digits
                                                             (sgn (decide (q < 0))
                                                                   (numW (digits q.natAbs).length (digits q.natAbs)) *
                                                                 sgn false
                                                                   (numW (digits (2 ^ Int.toNat 32)).length
                                                                     (digits (2 ^ Int.toNat 32)))).natAbs).length
                                                         (digits
                                                           (sgn (decide (q < 0))
                                                                 (numW (digits q.natAbs).length (digits q.natAbs)) *
                                                               sgn false
                                                                 (numW (digits (2 ^ Int.toNat 32)).length
                                                                   (digits (2 ^ Int.toNat 32)))).natAbs)) +
                                                     sgn (decide (low < 0))
                                                       (numW (digits low.natAbs).length (digits low.natAbs)) <
                                                   0))
                                               (numW
                                                 (digits
                                                     (sgn
                                                           (decide
                                                             (sgn (decide (q < 0))
                                                                   (numW (digits q.natAbs).length (digits q.natAbs)) *
                                                                 sgn false
                                                                   (numW (digits (2 ^ Int.toNat 32)).length
                                                                     (digits (2 ^ Int.toNat 32))) <
                                                               0))
                                                           (numW
                                                             (digits
                                                                 (sgn (decide (q < 0))
                                                                       (numW (digits q.natAbs).length (digits q.natAbs)) *
                                                                     sgn false
                                                                       (numW (digits (2 ^ Int.toNat 32)).length
                                                                         (digits (2 ^ Int.toNat 32)))).natAbs).length
                                                             (digits
                                                               (sgn (decide (q < 0))
                                                                     (numW (digits q.natAbs).length (digits q.natAbs)) *
                                                                   sgn false
                                                                     (numW (digits (2 ^ Int.toNat 32)).length
                                                                       (digits (2 ^ Int.toNat 32)))).natAbs)) +
                                                         sgn (decide (low < 0))
                                                           (numW (digits low.natAbs).length
                                                             (digits low.natAbs))).natAbs).length
                                                 (digits
                                                   (sgn
                                                         (decide
                                                           (sgn (decide (q < 0))
                                                                 (numW (digits q.natAbs).length (digits q.natAbs)) *
                                                               sgn false
                                                                 (numW (digits (2 ^ Int.toNat 32)).length
                                                                   (digits (2 ^ Int.toNat 32))) <
                                                             0))
                                                         (numW
                                                           (digits
                                                               (sgn (decide (q < 0))
                                                                     (numW (digits q.natAbs).length (digits q.natAbs)) *
                                                                   sgn false
                                                                     (numW (digits (2 ^ Int.toNat 32)).length
                                                                       (digits (2 ^ Int.toNat 32)))).natAbs).length
                                                           (digits
                                                             (sgn (decide (q < 0))
                                                                   (numW (digits q.natAbs).length (digits q.natAbs)) *
                                                                 sgn false
                                                                   (numW (digits (2 ^ Int.toNat 32)).length
                                                                     (digits (2 ^ Int.toNat 32)))).natAbs)) +
                                                       sgn (decide (low < 0))
                                                         (numW (digits low.natAbs).length (digits low.natAbs))).natAbs)) -
                                             p).natAbs)) &&
                             chk
                               (false = true →
                                 0 <
                                   numW
                                     (digits
                                         (sgn (decide (z < 0)) (numW (digits z.natAbs).length (digits z.natAbs)) -
                                             p).natAbs).length
                                     (digits
                                       (sgn (decide (z < 0)) (numW (digits z.natAbs).length (digits z.natAbs)) -
                                           p).natAbs)) then
                         bif
                             decide
                               (cmpZ
                                   (sgn false
                                     (numW
                                       (digits
                                           (sgn
                                                 (decide
                                                   (sgn
                                                         (decide
                                                           (sgn (decide (q < 0))
                                                                 (numW (digits q.natAbs).length (digits q.natAbs)) *
                                                               4294967296 <
                                                             0))
                                                         (numW
                                                           (digits
                                                               (sgn (decide (q < 0))
                                                                     (numW (digits q.natAbs).length (digits q.natAbs)) *
                                                                   4294967296).natAbs).length
                                                           (digits
                                                             (sgn (decide (q < 0))
                                                                   (numW (digits q.natAbs).length (digits q.natAbs)) *
                                                                 4294967296).natAbs)) +
                                                       sgn (decide (low < 0))
                                                         (numW (digits low.natAbs).length (digits low.natAbs)) <
                                                     0))
                                                 (numW
                                                   (digits
                                                       (sgn
                                                             (decide
                                                               (sgn (decide (q < 0))
                                                                     (numW (digits q.natAbs).length (digits q.natAbs)) *
                                                                   4294967296 <
                                                                 0))
                                                             (numW
                                                               (digits
                                                                   (sgn (decide (q < 0))
                                                                         (numW (digits q.natAbs).length (digits q.natAbs)) *
                                                                       4294967296).natAbs).length
                                                               (digits
                                                                 (sgn (decide (q < 0))
                                                                       (numW (digits q.natAbs).length (digits q.natAbs)) *
                                                                     4294967296).natAbs)) +
                                                           sgn (decide (low < 0))
                                                             (numW (digits low.natAbs).length
                                                               (digits low.natAbs))).natAbs).length
                                                   (digits
                                                     (sgn
                                                           (decide
                                                             (sgn (decide (q < 0))
                                                                   (numW (digits q.natAbs).length (digits q.natAbs)) *
                                                                 4294967296 <
                                                               0))
                                                           (numW
                                                             (digits
                                                                 (sgn (decide (q < 0))
                                                                       (numW (digits q.natAbs).length (digits q.natAbs)) *
                                                                     4294967296).natAbs).length
                                                             (digits
                                                               (sgn (decide (q < 0))
                                                                     (numW (digits q.natAbs).length (digits q.natAbs)) *
                                                                   4294967296).natAbs)) +
                                                         sgn (decide (low < 0))
                                                           (numW (digits low.natAbs).length (digits low.natAbs))).natAbs)) -
                                               p).natAbs).length
                                       (digits
                                         (sgn
                                               (decide
                                                 (sgn
                                                       (decide
                                                         (sgn (decide (q < 0))
                                                               (numW (digits q.natAbs).length (digits q.natAbs)) *
                                                             4294967296 <
                                                           0))
                                                       (numW
                                                         (digits
                                                             (sgn (decide (q < 0))
                                                                   (numW (digits q.natAbs).length (digits q.natAbs)) *
                                                                 4294967296).natAbs).length
                                                         (digits
                                                           (sgn (decide (q < 0))
                                                                 (numW (digits q.natAbs).length (digits q.natAbs)) *
                                                               4294967296).natAbs)) +
                                                     sgn (decide (low < 0))
                                                       (numW (digits low.natAbs).length (digits low.natAbs)) <
                                                   0))
                                               (numW
                                                 (digits
                                                     (sgn
                                                           (decide
                                                             (sgn (decide (q < 0))
                                                                   (numW (digits q.natAbs).length (digits q.natAbs)) *
                                                                 4294967296 <
                                                               0))
                                                           (numW
                                                             (digits
                                                                 (sgn (decide (q < 0))
                                                                       (numW (digits q.natAbs).length (digits q.natAbs)) *
                                                                     4294967296).natAbs).length
                                                             (digits
                                                               (sgn (decide (q < 0))
                                                                     (numW (digits q.natAbs).length (digits q.natAbs)) *
                                                                   4294967296).natAbs)) +
                                                         sgn (decide (low < 0))
                                                           (numW (digits low.natAbs).length
                                                             (digits low.natAbs))).natAbs).length
                                                 (digits
                                                   (sgn
                                                         (decide
                                                           (sgn (decide (q < 0))
                                                                 (numW (digits q.natAbs).length (digits q.natAbs)) *
                                                               4294967296 <
                                                             0))
                                                         (numW
                                                           (digits
                                                               (sgn (decide (q < 0))
                                                                     (numW (digits q.natAbs).length (digits q.natAbs)) *
                                                                   4294967296).natAbs).length
                                                           (digits
                                                             (sgn (decide (q < 0))
                                                                   (numW (digits q.natAbs).length (digits q.natAbs)) *
                                                                 4294967296).natAbs)) +
                                                       sgn (decide (low < 0))
                                                         (numW (digits low.natAbs).length (digits low.natAbs))).natAbs)) -
                                             p).natAbs)))
                                   (sgn false
                                     (numW
                                       (digits
                                           (sgn (decide (z < 0)) (numW (digits z.natAbs).length (digits z.natAbs)) -
                                               p).natAbs).length
                                       (digits
                                         (sgn (decide (z < 0)) (numW (digits z.natAbs).length (digits z.natAbs)) -
                                             p).natAbs))) <
                                 0) then
                           on
                             [Value.int IntKind.i64 p, Value.int IntKind.i64 low, Value.int IntKind.i64 ns,
                               Value.int IntKind.i64 e, Value.pointer (some (Addr.mk 0 0 none)), Value.bool true,
                               Value.int IntKind.i64 (IntKind.i64.wrap (q + 1))]
                             [some
                                 (Blk.mk true 2
                                   [Seg.vals
                                       [Value.bool
                                           (decide
                                             (sgn
                                                   (decide
                                                     (sgn (decide (q < 0))
                                                           (numW (digits q.natAbs).length (digits q.natAbs)) *
                                                         4294967296 <
                                                       0))
                                                   (numW
                                                     (digits
                                                         (sgn (decide (q < 0))
                                                               (numW (digits q.natAbs).length (digits q.natAbs)) *
                                                             4294967296).natAbs).length
                                                     (digits
                                                       (sgn (decide (q < 0))
                                                             (numW (digits q.natAbs).length (digits q.natAbs)) *
                                                           4294967296).natAbs)) +
                                                 sgn (decide (low < 0))
                                                   (numW (digits low.natAbs).length (digits low.natAbs)) <
                                               0)),
                                         Value.slice (some (Addr.mk 1 0 none))
                                           (digits
                                               (sgn
                                                     (decide
                                                       (sgn (decide (q < 0))
                                                             (numW (digits q.natAbs).length (digits q.natAbs)) *
                                                           4294967296 <
                                                         0))
                                                     (numW
                                                       (digits
                                                           (sgn (decide (q < 0))
                                                                 (numW (digits q.natAbs).length (digits q.natAbs)) *
                                                               4294967296).natAbs).length
                                                       (digits
                                                         (sgn (decide (q < 0))
                                                               (numW (digits q.natAbs).length (digits q.natAbs)) *
                                                             4294967296).natAbs)) +
                                                   sgn (decide (low < 0))
                                                     (numW (digits low.natAbs).length (digits low.natAbs))).natAbs).length
                                           2]]),
                               some
                                 (Blk.mk true 1
                                   [Seg.ints IntKind.u64
                                       (digits
                                           (sgn
                                                 (decide
                                                   (sgn (decide (q < 0)) (numW (digits q.natAbs).length (digits q.natAbs)) *
                                                       4294967296 <
                                                     0))
                                                 (numW
                                                   (digits
                                                       (sgn (decide (q < 0))
                                                             (numW (digits q.natAbs).length (digits q.natAbs)) *
                                                           4294967296).natAbs).length
                                                   (digits
                                                     (sgn (decide (q < 0))
                                                           (numW (digits q.natAbs).length (digits q.natAbs)) *
                                                         4294967296).natAbs)) +
                                               sgn (decide (low < 0))
                                                 (numW (digits low.natAbs).length (digits low.natAbs))).natAbs).length
                                       (digits
                                         (sgn
                                               (decide
                                                 (sgn (decide (q < 0)) (numW (digits q.natAbs).length (digits q.natAbs)) *
                                                     4294967296 <
                                                   0))
                                               (numW
                                                 (digits
                                                     (sgn (decide (q < 0))
                                                           (numW (digits q.natAbs).length (digits q.natAbs)) *
                                                         4294967296).natAbs).length
                                                 (digits
                                                   (sgn (decide (q < 0)) (numW (digits q.natAbs).length (digits q.natAbs)) *
                                                       4294967296).natAbs)) +
                                             sgn (decide (low < 0))
                                               (numW (digits low.natAbs).length (digits low.natAbs))).natAbs)])]
                         else
                           on
                             [Value.int IntKind.i64 p, Value.int IntKind.i64 low, Value.int IntKind.i64 ns,
                               Value.int IntKind.i64 e, Value.pointer (some (Addr.mk 0 0 none)), Value.bool true,
                               Value.int IntKind.i64 (IntKind.i64.wrap (q + 1))]
                             [some
                                 (Blk.mk true 2
                                   [Seg.vals
                                       [Value.bool (decide (z < 0)),
                                         Value.slice (some (Addr.mk 1 0 none)) (digits z.natAbs).length 2]]),
                               some (Blk.mk true 1 [Seg.ints IntKind.u64 (digits z.natAbs).length (digits z.natAbs)])]
                       else none
                     else none
                   else none
               else none
           else none
         else none
       else none
     else
       out (Exit.exit 0)
         [Value.int IntKind.i64 p, Value.int IntKind.i64 low, Value.int IntKind.i64 ns, Value.int IntKind.i64 e,
           Value.pointer (some (Addr.mk 0 0 none)), Value.bool true, Value.int IntKind.i64 q]
         [some
             (Blk.mk true 2
               [Seg.vals [Value.bool (decide (z < 0)), Value.slice (some (Addr.mk 1 0 none)) (digits z.natAbs).length 2]]),
           some (Blk.mk true 1 [Seg.ints IntKind.u64 (digits z.natAbs).length (digits z.natAbs)])]) := by kernel_rfl
--CFEND
end Go.Proofs.Ytfgehfnlkakioaa.VC
