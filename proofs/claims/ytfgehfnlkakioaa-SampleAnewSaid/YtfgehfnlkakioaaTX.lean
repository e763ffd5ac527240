/- stamp, and the document's answer for it: closed forms. -/
import Derived.Test.YtfgehfnlkakioaaRX2
namespace Go.Proofs.Ytfgehfnlkakioaa.VC
open Go Go.Proofs

/-- Which is greater. -/
def cmpZ (a b : Int) : Int := if b < a then 1 else if a < b then -1 else 0
noncomputable def F76 : FSpec := fun args h k => match args, h with
  | [.agg ⟨[.bool s, .slice (some ⟨0, 0, none⟩) n _]⟩, .agg ⟨[.bool t, .slice (some ⟨1, 0, none⟩) m _]⟩], [some ⟨false, 1, [.ints .u64 n1 xs]⟩, some ⟨false, 1, [.ints .u64 m1 ys]⟩] =>
    bif normB n xs && normB m ys && Nat.ble n n1 && Nat.ble m m1 && chk (s = true → 0 < numW n xs) && chk (t = true → 0 < numW m ys) then k (w63 (cmpZ (sgn s (numW n xs)) (sgn t (numW m ys)))) [wb n1 xs, wb m1 ys] else none
  | _, _ => none
noncomputable def S76 : Spec := mkS [(92, false, F92)]
--CF cf76 (s t : Bool) (n c m d n1 m1 : Nat) (xs ys : List Int) :: fnK Try.prog S76 noL Try.f76 [nA s 0 n c, nA t 1 m d] [wb n1 xs, wb m1 ys]
theorem cf76 (s t : Bool) (n c m d n1 m1 : Nat) (xs ys : List Int) : fnK Try.prog S76 noL Try.f76 [nA s 0 n c, nA t 1 m d] [wb n1 xs, wb m1 ys] =
     (bif s then bif !t then some (Res.ret (Value.int IntKind.i64 (-1)) [some (Blk.mk false 1 [Seg.ints IntKind.u64 n1 xs]), some (Blk.mk false 1 [Seg.ints IntKind.u64 m1 ys])]) else bif t then bif !s then
     some (Res.ret (Value.int IntKind.i64 1) [some (Blk.mk false 1 [Seg.ints IntKind.u64 n1 xs]), some (Blk.mk false 1 [Seg.ints IntKind.u64 m1 ys])]) else bif s then bif normB m ys && normB n xs && m.ble
     m1 && n.ble n1 then some (Res.ret (Value.int IntKind.i64 (cmpI (numW m ys) (numW n xs))) [some (Blk.mk false 1 [Seg.ints IntKind.u64 n1 xs]), some (Blk.mk false 1 [Seg.ints IntKind.u64 m1 ys])]) else
     none else bif normB n xs && normB m ys && n.ble n1 && m.ble m1 then some (Res.ret (Value.int IntKind.i64 (cmpI (numW n xs) (numW m ys))) [some (Blk.mk false 1 [Seg.ints IntKind.u64 n1 xs]), some
     (Blk.mk false 1 [Seg.ints IntKind.u64 m1 ys])]) else none else bif s then bif normB m ys && normB n xs && m.ble m1 && n.ble n1 then some (Res.ret (Value.int IntKind.i64 (cmpI (numW m ys) (numW n xs)))
     [some (Blk.mk false 1 [Seg.ints IntKind.u64 n1 xs]), some (Blk.mk false 1 [Seg.ints IntKind.u64 m1 ys])]) else none else bif normB n xs && normB m ys && n.ble n1 && m.ble m1 then some (Res.ret
     (Value.int IntKind.i64 (cmpI (numW n xs) (numW m ys))) [some (Blk.mk false 1 [Seg.ints IntKind.u64 n1 xs]), some (Blk.mk false 1 [Seg.ints IntKind.u64 m1 ys])]) else none else bif t then bif !s then
     some (Res.ret (Value.int IntKind.i64 1) [some (Blk.mk false 1 [Seg.ints IntKind.u64 n1 xs]), some (Blk.mk false 1 [Seg.ints IntKind.u64 m1 ys])]) else bif s then bif normB m ys && normB n xs && m.ble
     m1 && n.ble n1 then some (Res.ret (Value.int IntKind.i64 (cmpI (numW m ys) (numW n xs))) [some (Blk.mk false 1 [Seg.ints IntKind.u64 n1 xs]), some (Blk.mk false 1 [Seg.ints IntKind.u64 m1 ys])]) else
     none else bif normB n xs && normB m ys && n.ble n1 && m.ble m1 then some (Res.ret (Value.int IntKind.i64 (cmpI (numW n xs) (numW m ys))) [some (Blk.mk false 1 [Seg.ints IntKind.u64 n1 xs]), some
     (Blk.mk false 1 [Seg.ints IntKind.u64 m1 ys])]) else none else bif s then bif normB m ys && normB n xs && m.ble m1 && n.ble n1 then some (Res.ret (Value.int IntKind.i64 (cmpI (numW m ys) (numW n xs)))
     [some (Blk.mk false 1 [Seg.ints IntKind.u64 n1 xs]), some (Blk.mk false 1 [Seg.ints IntKind.u64 m1 ys])]) else none else bif normB n xs && normB m ys && n.ble n1 && m.ble m1 then some (Res.ret
     (Value.int IntKind.i64 (cmpI (numW n xs) (numW m ys))) [some (Blk.mk false 1 [Seg.ints IntKind.u64 n1 xs]), some (Blk.mk false 1 [Seg.ints IntKind.u64 m1 ys])]) else none) := by kernel_rfl
--CFEND
noncomputable def S98 : Spec := mkS [(31, false, F31)]
--CF cf98 (s : Bool) (n c n1 : Nat) (xs : List Int) :: fnK Try.prog S98 noL Try.f98 [nA s 0 n c] [wb n1 xs]
theorem cf98 (s : Bool) (n c n1 : Nat) (xs : List Int) : fnK Try.prog S98 noL Try.f98 [nA s 0 n c] [wb n1 xs] =
     (bif normB n xs && n.ble n1 then some (Res.ret (Value.int IntKind.i64 (hold (sgn s (numW n xs)))) [some (Blk.mk false 1 [Seg.ints IntKind.u64 n1 xs])]) else none) := by kernel_rfl
--CFEND
noncomputable def S99 : Spec := mkS [(27, false, F27), (28, false, F28), (29, false, F29), (98, false, F31)]
--CF cf99 (a : Int) :: fnK Try.prog S99 noL Try.f99 [w63 a] []
theorem cf99 (a : Int) : fnK Try.prog S99 noL Try.f99 [w63 a] [] =
     (bif normB (digits a.natAbs).length (digits a.natAbs) && normB 2 (digits 4294967296) && (digits a.natAbs).length.ble (digits a.natAbs).length && true && (digits a.natAbs).length.ble (OfNat.ofNat
     399999) && true && true && true then bif normB (digits (sgn (decide (a < 0)) (numW (digits a.natAbs).length (digits a.natAbs)) % 4294967296).natAbs).length (digits (sgn (decide (a < 0)) (numW (digits
     a.natAbs).length (digits a.natAbs)) % 4294967296).natAbs) && (digits (sgn (decide (a < 0)) (numW (digits a.natAbs).length (digits a.natAbs)) % 4294967296).natAbs).length.ble (digits (sgn (decide (a <
     0)) (numW (digits a.natAbs).length (digits a.natAbs)) % 4294967296).natAbs).length then bif normB (digits (sgn (decide (a < 0)) (numW (digits a.natAbs).length (digits a.natAbs)) /
     4294967296).natAbs).length (digits (sgn (decide (a < 0)) (numW (digits a.natAbs).length (digits a.natAbs)) / 4294967296).natAbs) && (digits (sgn (decide (a < 0)) (numW (digits a.natAbs).length (digits
     a.natAbs)) / 4294967296).natAbs).length.ble (digits (sgn (decide (a < 0)) (numW (digits a.natAbs).length (digits a.natAbs)) / 4294967296).natAbs).length then some (Res.ret (Value.tuple (Array.mk
     [Value.int IntKind.i64 (hold (sgn (decide (sgn (decide (a < 0)) (numW (digits a.natAbs).length (digits a.natAbs)) % 4294967296 < 0)) (numW (digits (sgn (decide (a < 0)) (numW (digits a.natAbs).length
     (digits a.natAbs)) % 4294967296).natAbs).length (digits (sgn (decide (a < 0)) (numW (digits a.natAbs).length (digits a.natAbs)) % 4294967296).natAbs)))), Value.int IntKind.i64 (hold (sgn (decide (sgn
     (decide (a < 0)) (numW (digits a.natAbs).length (digits a.natAbs)) / 4294967296 < 0)) (numW (digits (sgn (decide (a < 0)) (numW (digits a.natAbs).length (digits a.natAbs)) / 4294967296).natAbs).length
     (digits (sgn (decide (a < 0)) (numW (digits a.natAbs).length (digits a.natAbs)) / 4294967296).natAbs))))])) []) else none else none else none) := by kernel_rfl
--CFEND
def F99 : FSpec := fun args h k => match args, h with
  | [.int .i64 a], [] => k (.tuple ⟨[w63 (a % 4294967296), w63 (a / 4294967296)]⟩) []
  | _, _ => none
noncomputable def F100 : FSpec := fun args h k => match args, h with
  | [.agg ⟨[.bool s, .slice (some ⟨0, 0, none⟩) n _]⟩, .int .i64 p], [some ⟨false, 1, [.ints .u64 n1 xs]⟩] =>
    bif normB n xs && Nat.ble n n1 && Nat.ble n 400000 then k (.agg ⟨[.bool false, .slice (some ⟨1, 0, none⟩) (digits (sgn s (numW n xs) - p).natAbs).length 2]⟩) [wb n1 xs, db (sgn s (numW n xs) - p).natAbs] else none
  | _, _ => none
noncomputable def S100 : Spec := mkS [(29, false, F29), (36, false, F36)]
--CF cf100 (s : Bool) (n c n1 : Nat) (xs : List Int) (p : Int) :: fnK Try.prog S100 noL Try.f100 [nA s 0 n c, w63 p] [wb n1 xs]
theorem cf100 (s : Bool) (n c n1 : Nat) (xs : List Int) (p : Int) : fnK Try.prog S100 noL Try.f100 [nA s 0 n c, w63 p] [wb n1 xs] =
     (bif normB n xs && normB (digits p.natAbs).length (digits p.natAbs) && n.ble n1 && (digits p.natAbs).length.ble (digits p.natAbs).length && n.ble (OfNat.ofNat 400000) && (digits p.natAbs).length.ble
     (OfNat.ofNat 400000) then some (Res.ret (Value.agg (Array.mk [Value.bool false, Value.slice (some (Addr.mk 1 0 none)) (digits (sgn s (numW n xs) - sgn (decide (p < 0)) (numW (digits p.natAbs).length
     (digits p.natAbs))).natAbs).length 2])) [some (Blk.mk false 1 [Seg.ints IntKind.u64 n1 xs]), some (Blk.mk true 1 [Seg.ints IntKind.u64 (digits (sgn s (numW n xs) - sgn (decide (p < 0)) (numW (digits
     p.natAbs).length (digits p.natAbs))).natAbs).length (digits (sgn s (numW n xs) - sgn (decide (p < 0)) (numW (digits p.natAbs).length (digits p.natAbs))).natAbs)])]) else none) := by kernel_rfl
--CFEND
--CF cf97 (a b : Int) :: fnK Try.prog (mkS []) noL Try.f97 [.int .i32 a, .pointer (some ⟨0, 0, none⟩)] [some ⟨false, 1, [.ints .i64 1 [b]]⟩]
theorem cf97 (a b : Int) : fnK Try.prog (mkS []) noL Try.f97 [.int .i32 a, .pointer (some ⟨0, 0, none⟩)] [some ⟨false, 1, [.ints .i64 1 [b]]⟩] =
     (some (Res.ret (Value.int IntKind.i64 (IntKind.i64.wrap (b + IntKind.i64.wrap a))) [some (Blk.mk false 1 [Seg.ints IntKind.i64 1 [b]])])) := by kernel_rfl
--CFEND
def F97 : FSpec := fun args h k => match args, h with
  | [.int .i32 a, .pointer (some ⟨0, 0, none⟩)], [some ⟨false, 1, [.ints .i64 1 [b]]⟩] => k (w63 (IntKind.i64.wrap (b + IntKind.i64.wrap a))) [some ⟨false, 1, [.ints .i64 1 [b]]⟩]
  | _, _ => none
def S39 : Spec := mkS [(21, false, F21), (97, false, F97)]
--CF cf39 (a b : Int) :: fnK Try.prog S39 noL Try.f39 [w64 a, w63 b] []
theorem cf39 (a b : Int) : fnK Try.prog S39 noL Try.f39 [w64 a, w63 b] [] =
     (bif decide (IntKind.i32.wrap (IntKind.u32.wrap (IntKind.u32.wrap (IntKind.i64.wrap (a.fdiv 4294967296)) - IntKind.u32.wrap b)) > 0) then bif decide (b > IntKind.i64.wrap (9223372036854775807 -
     IntKind.i64.wrap (IntKind.i32.wrap (IntKind.u32.wrap (IntKind.u32.wrap (IntKind.i64.wrap (a.fdiv 4294967296)) - IntKind.u32.wrap b))))) then some (Res.ret (Value.tuple (Array.mk [Value.int IntKind.i64
     (IntKind.i64.wrap (IntKind.i64.wrap (b + IntKind.i64.wrap (IntKind.i32.wrap (IntKind.u32.wrap (IntKind.u32.wrap (IntKind.i64.wrap (a.fdiv 4294967296)) - IntKind.u32.wrap b)))) - 4294967296)),
     Value.int IntKind.i64 (if 999999999 < upI (IntKind.i64.wrap (IntKind.u32.wrap a)) 1000000000 4294967296 then 999999999 else upI (IntKind.i64.wrap (IntKind.u32.wrap a)) 1000000000 4294967296)])) [])
     else bif decide (IntKind.i32.wrap (IntKind.u32.wrap (IntKind.u32.wrap (IntKind.i64.wrap (a.fdiv 4294967296)) - IntKind.u32.wrap b)) < 0) then bif decide (b < IntKind.i64.wrap (-9223372036854775808 -
     IntKind.i64.wrap (IntKind.i32.wrap (IntKind.u32.wrap (IntKind.u32.wrap (IntKind.i64.wrap (a.fdiv 4294967296)) - IntKind.u32.wrap b))))) then some (Res.ret (Value.tuple (Array.mk [Value.int IntKind.i64
     (IntKind.i64.wrap (IntKind.i64.wrap (b + IntKind.i64.wrap (IntKind.i32.wrap (IntKind.u32.wrap (IntKind.u32.wrap (IntKind.i64.wrap (a.fdiv 4294967296)) - IntKind.u32.wrap b)))) + 4294967296)),
     Value.int IntKind.i64 (if 999999999 < upI (IntKind.i64.wrap (IntKind.u32.wrap a)) 1000000000 4294967296 then 999999999 else upI (IntKind.i64.wrap (IntKind.u32.wrap a)) 1000000000 4294967296)])) [])
     else some (Res.ret (Value.tuple (Array.mk [Value.int IntKind.i64 (IntKind.i64.wrap (b + IntKind.i64.wrap (IntKind.i32.wrap (IntKind.u32.wrap (IntKind.u32.wrap (IntKind.i64.wrap (a.fdiv 4294967296)) -
     IntKind.u32.wrap b))))), Value.int IntKind.i64 (if 999999999 < upI (IntKind.i64.wrap (IntKind.u32.wrap a)) 1000000000 4294967296 then 999999999 else upI (IntKind.i64.wrap (IntKind.u32.wrap a))
     1000000000 4294967296)])) []) else some (Res.ret (Value.tuple (Array.mk [Value.int IntKind.i64 (IntKind.i64.wrap (b + IntKind.i64.wrap (IntKind.i32.wrap (IntKind.u32.wrap (IntKind.u32.wrap
     (IntKind.i64.wrap (a.fdiv 4294967296)) - IntKind.u32.wrap b))))), Value.int IntKind.i64 (if 999999999 < upI (IntKind.i64.wrap (IntKind.u32.wrap a)) 1000000000 4294967296 then 999999999 else upI
     (IntKind.i64.wrap (IntKind.u32.wrap a)) 1000000000 4294967296)])) []) else bif decide (IntKind.i32.wrap (IntKind.u32.wrap (IntKind.u32.wrap (IntKind.i64.wrap (a.fdiv 4294967296)) - IntKind.u32.wrap
     b)) < 0) then bif decide (b < IntKind.i64.wrap (-9223372036854775808 - IntKind.i64.wrap (IntKind.i32.wrap (IntKind.u32.wrap (IntKind.u32.wrap (IntKind.i64.wrap (a.fdiv 4294967296)) - IntKind.u32.wrap
     b))))) then some (Res.ret (Value.tuple (Array.mk [Value.int IntKind.i64 (IntKind.i64.wrap (IntKind.i64.wrap (b + IntKind.i64.wrap (IntKind.i32.wrap (IntKind.u32.wrap (IntKind.u32.wrap
     (IntKind.i64.wrap (a.fdiv 4294967296)) - IntKind.u32.wrap b)))) + 4294967296)), Value.int IntKind.i64 (if 999999999 < upI (IntKind.i64.wrap (IntKind.u32.wrap a)) 1000000000 4294967296 then 999999999
     else upI (IntKind.i64.wrap (IntKind.u32.wrap a)) 1000000000 4294967296)])) []) else some (Res.ret (Value.tuple (Array.mk [Value.int IntKind.i64 (IntKind.i64.wrap (b + IntKind.i64.wrap
     (IntKind.i32.wrap (IntKind.u32.wrap (IntKind.u32.wrap (IntKind.i64.wrap (a.fdiv 4294967296)) - IntKind.u32.wrap b))))), Value.int IntKind.i64 (if 999999999 < upI (IntKind.i64.wrap (IntKind.u32.wrap
     a)) 1000000000 4294967296 then 999999999 else upI (IntKind.i64.wrap (IntKind.u32.wrap a)) 1000000000 4294967296)])) []) else some (Res.ret (Value.tuple (Array.mk [Value.int IntKind.i64
     (IntKind.i64.wrap (b + IntKind.i64.wrap (IntKind.i32.wrap (IntKind.u32.wrap (IntKind.u32.wrap (IntKind.i64.wrap (a.fdiv 4294967296)) - IntKind.u32.wrap b))))), Value.int IntKind.i64 (if 999999999 <
     upI (IntKind.i64.wrap (IntKind.u32.wrap a)) 1000000000 4294967296 then 999999999 else upI (IntKind.i64.wrap (IntKind.u32.wrap a)) 1000000000 4294967296)])) [])) := by kernel_rfl
--CFEND

noncomputable def S40 : Spec := mkS [(27, false, F27), (29, false, F29), (32, false, F32), (35, false, F35), (76, false, F76), (86, false, F86), (98, false, F31), (99, false, F99), (100, false, F100)]
def live40 : List Nat := [1, 6, 8, 10, 11, 12, 13]
--CF cf40A (p low ns e q : Int) (on : List Value → Heap → Out) (out : Exit → List Value → Heap → Out) :: roundK Try.prog S40 noL Try.f40.ntmps 0 (loopOf Try.f40 0) live40 [w63 p, w63 low, w63 ns, w63 e, pt 0, .bool false, w63 q] [nb false] on out
theorem cf40A (p low ns e q : Int) (on : List Value → Heap → Out) (out : Exit → List Value → Heap → Out) : roundK Try.prog S40 noL Try.f40.ntmps 0 (loopOf Try.f40 0) live40 [w63 p, w63 low, w63 ns, w63 e, pt 0, .bool false, w63 q] [nb false] on out =
     (bif decide (q ≤ IntKind.i64.wrap (e + 1)) then bif normB (digits q.natAbs).length (digits q.natAbs) && normB 2 (digits 4294967296) && (digits q.natAbs).length.ble (digits q.natAbs).length && true &&
     (digits q.natAbs).length.ble (OfNat.ofNat 400000) && true then bif normB (digits (sgn (decide (q < 0)) (numW (digits q.natAbs).length (digits q.natAbs)) * 4294967296).natAbs).length (digits (sgn
     (decide (q < 0)) (numW (digits q.natAbs).length (digits q.natAbs)) * 4294967296).natAbs) && normB (digits low.natAbs).length (digits low.natAbs) && (digits (sgn (decide (q < 0)) (numW (digits
     q.natAbs).length (digits q.natAbs)) * 4294967296).natAbs).length.ble (digits (sgn (decide (q < 0)) (numW (digits q.natAbs).length (digits q.natAbs)) * 4294967296).natAbs).length && (digits
     low.natAbs).length.ble (digits low.natAbs).length && (digits (sgn (decide (q < 0)) (numW (digits q.natAbs).length (digits q.natAbs)) * 4294967296).natAbs).length.ble (OfNat.ofNat 400000) && (digits
     low.natAbs).length.ble (OfNat.ofNat 400000) then bif normB (digits (sgn (decide (sgn (decide (q < 0)) (numW (digits q.natAbs).length (digits q.natAbs)) * 4294967296 < 0)) (numW (digits (sgn (decide (q
     < 0)) (numW (digits q.natAbs).length (digits q.natAbs)) * 4294967296).natAbs).length (digits (sgn (decide (q < 0)) (numW (digits q.natAbs).length (digits q.natAbs)) * 4294967296).natAbs)) + sgn
     (decide (low < 0)) (numW (digits low.natAbs).length (digits low.natAbs))).natAbs).length (digits (sgn (decide (sgn (decide (q < 0)) (numW (digits q.natAbs).length (digits q.natAbs)) * 4294967296 < 0))
     (numW (digits (sgn (decide (q < 0)) (numW (digits q.natAbs).length (digits q.natAbs)) * 4294967296).natAbs).length (digits (sgn (decide (q < 0)) (numW (digits q.natAbs).length (digits q.natAbs)) *
     4294967296).natAbs)) + sgn (decide (low < 0)) (numW (digits low.natAbs).length (digits low.natAbs))).natAbs) && normB 2 (digits 9223372036854775808) && (digits (sgn (decide (sgn (decide (q < 0)) (numW
     (digits q.natAbs).length (digits q.natAbs)) * 4294967296 < 0)) (numW (digits (sgn (decide (q < 0)) (numW (digits q.natAbs).length (digits q.natAbs)) * 4294967296).natAbs).length (digits (sgn (decide
     (q < 0)) (numW (digits q.natAbs).length (digits q.natAbs)) * 4294967296).natAbs)) + sgn (decide (low < 0)) (numW (digits low.natAbs).length (digits low.natAbs))).natAbs).length.ble (digits (sgn
     (decide (sgn (decide (q < 0)) (numW (digits q.natAbs).length (digits q.natAbs)) * 4294967296 < 0)) (numW (digits (sgn (decide (q < 0)) (numW (digits q.natAbs).length (digits q.natAbs)) *
     4294967296).natAbs).length (digits (sgn (decide (q < 0)) (numW (digits q.natAbs).length (digits q.natAbs)) * 4294967296).natAbs)) + sgn (decide (low < 0)) (numW (digits low.natAbs).length (digits
     low.natAbs))).natAbs).length && true && chk (decide (sgn (decide (sgn (decide (q < 0)) (numW (digits q.natAbs).length (digits q.natAbs)) * sgn false (numW (digits (2 ^ Int.toNat 32)).length (digits (2
     ^ Int.toNat 32))) < 0)) (numW (digits (sgn (decide (q < 0)) (numW (digits q.natAbs).length (digits q.natAbs)) * sgn false (numW (digits (2 ^ Int.toNat 32)).length (digits (2 ^ Int.toNat
     32)))).natAbs).length (digits (sgn (decide (q < 0)) (numW (digits q.natAbs).length (digits q.natAbs)) * sgn false (numW (digits (2 ^ Int.toNat 32)).length (digits (2 ^ Int.toNat 32)))).natAbs)) + sgn
     (decide (low < 0)) (numW (digits low.natAbs).length (digits low.natAbs)) < 0) = true → 0 < numW (digits (sgn (decide (sgn (decide (q < 0)) (numW (digits q.natAbs).length (digits q.natAbs)) * sgn false
     (numW (digits (2 ^ Int.toNat 32)).length (digits (2 ^ Int.toNat 32))) < 0)) (numW (digits (sgn (decide (q < 0)) (numW (digits q.natAbs).length (digits q.natAbs)) * sgn false (numW (digits (2 ^
     Int.toNat 32)).length (digits (2 ^ Int.toNat 32)))).natAbs).length (digits (sgn (decide (q < 0)) (numW (digits q.natAbs).length (digits q.natAbs)) * sgn false (numW (digits (2 ^ Int.toNat 32)).length
     (digits (2 ^ Int.toNat 32)))).natAbs)) + sgn (decide (low < 0)) (numW (digits low.natAbs).length (digits low.natAbs))).natAbs).length (digits (sgn (decide (sgn (decide (q < 0)) (numW (digits
     q.natAbs).length (digits q.natAbs)) * sgn false (numW (digits (2 ^ Int.toNat 32)).length (digits (2 ^ Int.toNat 32))) < 0)) (numW (digits (sgn (decide (q < 0)) (numW (digits q.natAbs).length (digits
     q.natAbs)) * sgn false (numW (digits (2 ^ Int.toNat 32)).length (digits (2 ^ Int.toNat 32)))).natAbs).length (digits (sgn (decide (q < 0)) (numW (digits q.natAbs).length (digits q.natAbs)) * sgn false
     (numW (digits (2 ^ Int.toNat 32)).length (digits (2 ^ Int.toNat 32)))).natAbs)) + sgn (decide (low < 0)) (numW (digits low.natAbs).length (digits low.natAbs))).natAbs)) && chk (decide
     (-9223372036854775808 < 0) = true → 0 < numW (digits (-9223372036854775808).natAbs).length (digits (-9223372036854775808).natAbs)) then bif decide (cmpZ (sgn (decide (sgn (decide (sgn (decide (q < 0))
     (numW (digits q.natAbs).length (digits q.natAbs)) * 4294967296 < 0)) (numW (digits (sgn (decide (q < 0)) (numW (digits q.natAbs).length (digits q.natAbs)) * 4294967296).natAbs).length (digits (sgn
     (decide (q < 0)) (numW (digits q.natAbs).length (digits q.natAbs)) * 4294967296).natAbs)) + sgn (decide (low < 0)) (numW (digits low.natAbs).length (digits low.natAbs)) < 0)) (numW (digits (sgn
     (decide (sgn (decide (q < 0)) (numW (digits q.natAbs).length (digits q.natAbs)) * 4294967296 < 0)) (numW (digits (sgn (decide (q < 0)) (numW (digits q.natAbs).length (digits q.natAbs)) *
     4294967296).natAbs).length (digits (sgn (decide (q < 0)) (numW (digits q.natAbs).length (digits q.natAbs)) * 4294967296).natAbs)) + sgn (decide (low < 0)) (numW (digits low.natAbs).length (digits
     low.natAbs))).natAbs).length (digits (sgn (decide (sgn (decide (q < 0)) (numW (digits q.natAbs).length (digits q.natAbs)) * 4294967296 < 0)) (numW (digits (sgn (decide (q < 0)) (numW (digits
     q.natAbs).length (digits q.natAbs)) * 4294967296).natAbs).length (digits (sgn (decide (q < 0)) (numW (digits q.natAbs).length (digits q.natAbs)) * 4294967296).natAbs)) + sgn (decide (low < 0)) (numW
     (digits low.natAbs).length (digits low.natAbs))).natAbs))) (-9223372036854775808) < 0) then on [Value.int IntKind.i64 p, Value.int IntKind.i64 low, Value.int IntKind.i64 ns, Value.int IntKind.i64 e,
     Value.pointer (some (Addr.mk 0 0 none)), Value.bool false, Value.int IntKind.i64 (IntKind.i64.wrap (q + 1))] [some (Blk.mk true 2 [Seg.vals [Value.bool false, Value.slice none 0 0]])] else bif normB
     (digits (sgn (decide (sgn (decide (q < 0)) (numW (digits q.natAbs).length (digits q.natAbs)) * 4294967296 < 0)) (numW (digits (sgn (decide (q < 0)) (numW (digits q.natAbs).length (digits q.natAbs)) *
     4294967296).natAbs).length (digits (sgn (decide (q < 0)) (numW (digits q.natAbs).length (digits q.natAbs)) * 4294967296).natAbs)) + sgn (decide (low < 0)) (numW (digits low.natAbs).length (digits
     low.natAbs))).natAbs).length (digits (sgn (decide (sgn (decide (q < 0)) (numW (digits q.natAbs).length (digits q.natAbs)) * 4294967296 < 0)) (numW (digits (sgn (decide (q < 0)) (numW (digits
     q.natAbs).length (digits q.natAbs)) * 4294967296).natAbs).length (digits (sgn (decide (q < 0)) (numW (digits q.natAbs).length (digits q.natAbs)) * 4294967296).natAbs)) + sgn (decide (low < 0)) (numW
     (digits low.natAbs).length (digits low.natAbs))).natAbs) && normB 2 (digits 9223372036854775807) && (digits (sgn (decide (sgn (decide (q < 0)) (numW (digits q.natAbs).length (digits q.natAbs)) *
     4294967296 < 0)) (numW (digits (sgn (decide (q < 0)) (numW (digits q.natAbs).length (digits q.natAbs)) * 4294967296).natAbs).length (digits (sgn (decide (q < 0)) (numW (digits q.natAbs).length (digits
     q.natAbs)) * 4294967296).natAbs)) + sgn (decide (low < 0)) (numW (digits low.natAbs).length (digits low.natAbs))).natAbs).length.ble (digits (sgn (decide (sgn (decide (q < 0)) (numW (digits
     q.natAbs).length (digits q.natAbs)) * 4294967296 < 0)) (numW (digits (sgn (decide (q < 0)) (numW (digits q.natAbs).length (digits q.natAbs)) * 4294967296).natAbs).length (digits (sgn (decide (q < 0))
     (numW (digits q.natAbs).length (digits q.natAbs)) * 4294967296).natAbs)) + sgn (decide (low < 0)) (numW (digits low.natAbs).length (digits low.natAbs))).natAbs).length && true && chk (decide (sgn
     (decide (sgn (decide (q < 0)) (numW (digits q.natAbs).length (digits q.natAbs)) * sgn false (numW (digits (2 ^ Int.toNat 32)).length (digits (2 ^ Int.toNat 32))) < 0)) (numW (digits (sgn (decide (q <
     0)) (numW (digits q.natAbs).length (digits q.natAbs)) * sgn false (numW (digits (2 ^ Int.toNat 32)).length (digits (2 ^ Int.toNat 32)))).natAbs).length (digits (sgn (decide (q < 0)) (numW (digits
     q.natAbs).length (digits q.natAbs)) * sgn false (numW (digits (2 ^ Int.toNat 32)).length (digits (2 ^ Int.toNat 32)))).natAbs)) + sgn (decide (low < 0)) (numW (digits low.natAbs).length (digits
     low.natAbs)) < 0) = true → 0 < numW (digits (sgn (decide (sgn (decide (q < 0)) (numW (digits q.natAbs).length (digits q.natAbs)) * sgn false (numW (digits (2 ^ Int.toNat 32)).length (digits (2 ^
     Int.toNat 32))) < 0)) (numW (digits (sgn (decide (q < 0)) (numW (digits q.natAbs).length (digits q.natAbs)) * sgn false (numW (digits (2 ^ Int.toNat 32)).length (digits (2 ^ Int.toNat
     32)))).natAbs).length (digits (sgn (decide (q < 0)) (numW (digits q.natAbs).length (digits q.natAbs)) * sgn false (numW (digits (2 ^ Int.toNat 32)).length (digits (2 ^ Int.toNat 32)))).natAbs)) + sgn
     (decide (low < 0)) (numW (digits low.natAbs).length (digits low.natAbs))).natAbs).length (digits (sgn (decide (sgn (decide (q < 0)) (numW (digits q.natAbs).length (digits q.natAbs)) * sgn false (numW
     (digits (2 ^ Int.toNat 32)).length (digits (2 ^ Int.toNat 32))) < 0)) (numW (digits (sgn (decide (q < 0)) (numW (digits q.natAbs).length (digits q.natAbs)) * sgn false (numW (digits (2 ^ Int.toNat
     32)).length (digits (2 ^ Int.toNat 32)))).natAbs).length (digits (sgn (decide (q < 0)) (numW (digits q.natAbs).length (digits q.natAbs)) * sgn false (numW (digits (2 ^ Int.toNat 32)).length (digits (2
     ^ Int.toNat 32)))).natAbs)) + sgn (decide (low < 0)) (numW (digits low.natAbs).length (digits low.natAbs))).natAbs)) && chk (decide (9223372036854775807 < 0) = true → 0 < numW (digits (Int.natAbs
     9223372036854775807)).length (digits (Int.natAbs 9223372036854775807))) then bif decide (cmpZ (sgn (decide (sgn (decide (sgn (decide (q < 0)) (numW (digits q.natAbs).length (digits q.natAbs)) *
     4294967296 < 0)) (numW (digits (sgn (decide (q < 0)) (numW (digits q.natAbs).length (digits q.natAbs)) * 4294967296).natAbs).length (digits (sgn (decide (q < 0)) (numW (digits q.natAbs).length (digits
     q.natAbs)) * 4294967296).natAbs)) + sgn (decide (low < 0)) (numW (digits low.natAbs).length (digits low.natAbs)) < 0)) (numW (digits (sgn (decide (sgn (decide (q < 0)) (numW (digits q.natAbs).length
     (digits q.natAbs)) * 4294967296 < 0)) (numW (digits (sgn (decide (q < 0)) (numW (digits q.natAbs).length (digits q.natAbs)) * 4294967296).natAbs).length (digits (sgn (decide (q < 0)) (numW (digits
     q.natAbs).length (digits q.natAbs)) * 4294967296).natAbs)) + sgn (decide (low < 0)) (numW (digits low.natAbs).length (digits low.natAbs))).natAbs).length (digits (sgn (decide (sgn (decide (q < 0))
     (numW (digits q.natAbs).length (digits q.natAbs)) * 4294967296 < 0)) (numW (digits (sgn (decide (q < 0)) (numW (digits q.natAbs).length (digits q.natAbs)) * 4294967296).natAbs).length (digits (sgn
     (decide (q < 0)) (numW (digits q.natAbs).length (digits q.natAbs)) * 4294967296).natAbs)) + sgn (decide (low < 0)) (numW (digits low.natAbs).length (digits low.natAbs))).natAbs))) 9223372036854775807
     > 0) then on [Value.int IntKind.i64 p, Value.int IntKind.i64 low, Value.int IntKind.i64 ns, Value.int IntKind.i64 e, Value.pointer (some (Addr.mk 0 0 none)), Value.bool false, Value.int IntKind.i64
     (IntKind.i64.wrap (q + 1))] [some (Blk.mk true 2 [Seg.vals [Value.bool false, Value.slice none 0 0]])] else on [Value.int IntKind.i64 p, Value.int IntKind.i64 low, Value.int IntKind.i64 ns, Value.int
     IntKind.i64 e, Value.pointer (some (Addr.mk 0 0 none)), Value.bool true, Value.int IntKind.i64 (IntKind.i64.wrap (q + 1))] [some (Blk.mk true 2 [Seg.vals [Value.bool (decide (sgn (decide (sgn (decide
     (q < 0)) (numW (digits q.natAbs).length (digits q.natAbs)) * 4294967296 < 0)) (numW (digits (sgn (decide (q < 0)) (numW (digits q.natAbs).length (digits q.natAbs)) * 4294967296).natAbs).length (digits
     (sgn (decide (q < 0)) (numW (digits q.natAbs).length (digits q.natAbs)) * 4294967296).natAbs)) + sgn (decide (low < 0)) (numW (digits low.natAbs).length (digits low.natAbs)) < 0)), Value.slice (some
     (Addr.mk 1 0 none)) (digits (sgn (decide (sgn (decide (q < 0)) (numW (digits q.natAbs).length (digits q.natAbs)) * 4294967296 < 0)) (numW (digits (sgn (decide (q < 0)) (numW (digits q.natAbs).length
     (digits q.natAbs)) * 4294967296).natAbs).length (digits (sgn (decide (q < 0)) (numW (digits q.natAbs).length (digits q.natAbs)) * 4294967296).natAbs)) + sgn (decide (low < 0)) (numW (digits
     low.natAbs).length (digits low.natAbs))).natAbs).length 2]]), some (Blk.mk true 1 [Seg.ints IntKind.u64 (digits (sgn (decide (sgn (decide (q < 0)) (numW (digits q.natAbs).length (digits q.natAbs)) *
     4294967296 < 0)) (numW (digits (sgn (decide (q < 0)) (numW (digits q.natAbs).length (digits q.natAbs)) * 4294967296).natAbs).length (digits (sgn (decide (q < 0)) (numW (digits q.natAbs).length (digits
     q.natAbs)) * 4294967296).natAbs)) + sgn (decide (low < 0)) (numW (digits low.natAbs).length (digits low.natAbs))).natAbs).length (digits (sgn (decide (sgn (decide (q < 0)) (numW (digits
     q.natAbs).length (digits q.natAbs)) * 4294967296 < 0)) (numW (digits (sgn (decide (q < 0)) (numW (digits q.natAbs).length (digits q.natAbs)) * 4294967296).natAbs).length (digits (sgn (decide (q < 0))
     (numW (digits q.natAbs).length (digits q.natAbs)) * 4294967296).natAbs)) + sgn (decide (low < 0)) (numW (digits low.natAbs).length (digits low.natAbs))).natAbs)])] else none else none else none else
     none else out (Exit.exit 0) [Value.int IntKind.i64 p, Value.int IntKind.i64 low, Value.int IntKind.i64 ns, Value.int IntKind.i64 e, Value.pointer (some (Addr.mk 0 0 none)), Value.bool false, Value.int
     IntKind.i64 q] [some (Blk.mk true 2 [Seg.vals [Value.bool false, Value.slice none 0 0]])]) := by kernel_rfl
--CFEND
--CF cf40B (p low ns e q z : Int) (on : List Value → Heap → Out) (out : Exit → List Value → Heap → Out) :: roundK Try.prog S40 noL Try.f40.ntmps 0 (loopOf Try.f40 0) live40 [w63 p, w63 low, w63 ns, w63 e, pt 0, .bool true, w63 q] [bx (decide (z < 0)) 1 (digits z.natAbs).length 2, zB z] on out
theorem cf40B (p low ns e q z : Int) (on : List Value → Heap → Out) (out : Exit → List Value → Heap → Out) : roundK Try.prog S40 noL Try.f40.ntmps 0 (loopOf Try.f40 0) live40 [w63 p, w63 low, w63 ns, w63 e, pt 0, .bool true, w63 q] [bx (decide (z < 0)) 1 (digits z.natAbs).length 2, zB z] on out =
     (bif decide (q ≤ IntKind.i64.wrap (e + 1)) then bif normB (digits q.natAbs).length (digits q.natAbs) && normB 2 (digits 4294967296) && (digits q.natAbs).length.ble (digits q.natAbs).length && true &&
     (digits q.natAbs).length.ble (OfNat.ofNat 400000) && true then bif normB (digits (sgn (decide (q < 0)) (numW (digits q.natAbs).length (digits q.natAbs)) * 4294967296).natAbs).length (digits (sgn
     (decide (q < 0)) (numW (digits q.natAbs).length (digits q.natAbs)) * 4294967296).natAbs) && normB (digits low.natAbs).length (digits low.natAbs) && (digits (sgn (decide (q < 0)) (numW (digits
     q.natAbs).length (digits q.natAbs)) * 4294967296).natAbs).length.ble (digits (sgn (decide (q < 0)) (numW (digits q.natAbs).length (digits q.natAbs)) * 4294967296).natAbs).length && (digits
     low.natAbs).length.ble (digits low.natAbs).length && (digits (sgn (decide (q < 0)) (numW (digits q.natAbs).length (digits q.natAbs)) * 4294967296).natAbs).length.ble (OfNat.ofNat 400000) && (digits
     low.natAbs).length.ble (OfNat.ofNat 400000) then bif normB (digits (sgn (decide (sgn (decide (q < 0)) (numW (digits q.natAbs).length (digits q.natAbs)) * 4294967296 < 0)) (numW (digits (sgn (decide (q
     < 0)) (numW (digits q.natAbs).length (digits q.natAbs)) * 4294967296).natAbs).length (digits (sgn (decide (q < 0)) (numW (digits q.natAbs).length (digits q.natAbs)) * 4294967296).natAbs)) + sgn
     (decide (low < 0)) (numW (digits low.natAbs).length (digits low.natAbs))).natAbs).length (digits (sgn (decide (sgn (decide (q < 0)) (numW (digits q.natAbs).length (digits q.natAbs)) * 4294967296 < 0))
     (numW (digits (sgn (decide (q < 0)) (numW (digits q.natAbs).length (digits q.natAbs)) * 4294967296).natAbs).length (digits (sgn (decide (q < 0)) (numW (digits q.natAbs).length (digits q.natAbs)) *
     4294967296).natAbs)) + sgn (decide (low < 0)) (numW (digits low.natAbs).length (digits low.natAbs))).natAbs) && normB 2 (digits 9223372036854775808) && (digits (sgn (decide (sgn (decide (q < 0)) (numW
     (digits q.natAbs).length (digits q.natAbs)) * 4294967296 < 0)) (numW (digits (sgn (decide (q < 0)) (numW (digits q.natAbs).length (digits q.natAbs)) * 4294967296).natAbs).length (digits (sgn (decide
     (q < 0)) (numW (digits q.natAbs).length (digits q.natAbs)) * 4294967296).natAbs)) + sgn (decide (low < 0)) (numW (digits low.natAbs).length (digits low.natAbs))).natAbs).length.ble (digits (sgn
     (decide (sgn (decide (q < 0)) (numW (digits q.natAbs).length (digits q.natAbs)) * 4294967296 < 0)) (numW (digits (sgn (decide (q < 0)) (numW (digits q.natAbs).length (digits q.natAbs)) *
     4294967296).natAbs).length (digits (sgn (decide (q < 0)) (numW (digits q.natAbs).length (digits q.natAbs)) * 4294967296).natAbs)) + sgn (decide (low < 0)) (numW (digits low.natAbs).length (digits
     low.natAbs))).natAbs).length && true && chk (decide (sgn (decide (sgn (decide (q < 0)) (numW (digits q.natAbs).length (digits q.natAbs)) * sgn false (numW (digits (2 ^ Int.toNat 32)).length (digits (2
     ^ Int.toNat 32))) < 0)) (numW (digits (sgn (decide (q < 0)) (numW (digits q.natAbs).length (digits q.natAbs)) * sgn false (numW (digits (2 ^ Int.toNat 32)).length (digits (2 ^ Int.toNat
     32)))).natAbs).length (digits (sgn (decide (q < 0)) (numW (digits q.natAbs).length (digits q.natAbs)) * sgn false (numW (digits (2 ^ Int.toNat 32)).length (digits (2 ^ Int.toNat 32)))).natAbs)) + sgn
     (decide (low < 0)) (numW (digits low.natAbs).length (digits low.natAbs)) < 0) = true → 0 < numW (digits (sgn (decide (sgn (decide (q < 0)) (numW (digits q.natAbs).length (digits q.natAbs)) * sgn false
     (numW (digits (2 ^ Int.toNat 32)).length (digits (2 ^ Int.toNat 32))) < 0)) (numW (digits (sgn (decide (q < 0)) (numW (digits q.natAbs).length (digits q.natAbs)) * sgn false (numW (digits (2 ^
     Int.toNat 32)).length (digits (2 ^ Int.toNat 32)))).natAbs).length (digits (sgn (decide (q < 0)) (numW (digits q.natAbs).length (digits q.natAbs)) * sgn false (numW (digits (2 ^ Int.toNat 32)).length
     (digits (2 ^ Int.toNat 32)))).natAbs)) + sgn (decide (low < 0)) (numW (digits low.natAbs).length (digits low.natAbs))).natAbs).length (digits (sgn (decide (sgn (decide (q < 0)) (numW (digits
     q.natAbs).length (digits q.natAbs)) * sgn false (numW (digits (2 ^ Int.toNat 32)).length (digits (2 ^ Int.toNat 32))) < 0)) (numW (digits (sgn (decide (q < 0)) (numW (digits q.natAbs).length (digits
     q.natAbs)) * sgn false (numW (digits (2 ^ Int.toNat 32)).length (digits (2 ^ Int.toNat 32)))).natAbs).length (digits (sgn (decide (q < 0)) (numW (digits q.natAbs).length (digits q.natAbs)) * sgn false
     (numW (digits (2 ^ Int.toNat 32)).length (digits (2 ^ Int.toNat 32)))).natAbs)) + sgn (decide (low < 0)) (numW (digits low.natAbs).length (digits low.natAbs))).natAbs)) && chk (decide
     (-9223372036854775808 < 0) = true → 0 < numW (digits (-9223372036854775808).natAbs).length (digits (-9223372036854775808).natAbs)) then bif decide (cmpZ (sgn (decide (sgn (decide (sgn (decide (q < 0))
     (numW (digits q.natAbs).length (digits q.natAbs)) * 4294967296 < 0)) (numW (digits (sgn (decide (q < 0)) (numW (digits q.natAbs).length (digits q.natAbs)) * 4294967296).natAbs).length (digits (sgn
     (decide (q < 0)) (numW (digits q.natAbs).length (digits q.natAbs)) * 4294967296).natAbs)) + sgn (decide (low < 0)) (numW (digits low.natAbs).length (digits low.natAbs)) < 0)) (numW (digits (sgn
     (decide (sgn (decide (q < 0)) (numW (digits q.natAbs).length (digits q.natAbs)) * 4294967296 < 0)) (numW (digits (sgn (decide (q < 0)) (numW (digits q.natAbs).length (digits q.natAbs)) *
     4294967296).natAbs).length (digits (sgn (decide (q < 0)) (numW (digits q.natAbs).length (digits q.natAbs)) * 4294967296).natAbs)) + sgn (decide (low < 0)) (numW (digits low.natAbs).length (digits
     low.natAbs))).natAbs).length (digits (sgn (decide (sgn (decide (q < 0)) (numW (digits q.natAbs).length (digits q.natAbs)) * 4294967296 < 0)) (numW (digits (sgn (decide (q < 0)) (numW (digits
     q.natAbs).length (digits q.natAbs)) * 4294967296).natAbs).length (digits (sgn (decide (q < 0)) (numW (digits q.natAbs).length (digits q.natAbs)) * 4294967296).natAbs)) + sgn (decide (low < 0)) (numW
     (digits low.natAbs).length (digits low.natAbs))).natAbs))) (-9223372036854775808) < 0) then on [Value.int IntKind.i64 p, Value.int IntKind.i64 low, Value.int IntKind.i64 ns, Value.int IntKind.i64 e,
     Value.pointer (some (Addr.mk 0 0 none)), Value.bool true, Value.int IntKind.i64 (IntKind.i64.wrap (q + 1))] [some (Blk.mk true 2 [Seg.vals [Value.bool (decide (z < 0)), Value.slice (some (Addr.mk 1 0
     none)) (digits z.natAbs).length 2]]), some (Blk.mk true 1 [Seg.ints IntKind.u64 (digits z.natAbs).length (digits z.natAbs)])] else bif normB (digits (sgn (decide (sgn (decide (q < 0)) (numW (digits
     q.natAbs).length (digits q.natAbs)) * 4294967296 < 0)) (numW (digits (sgn (decide (q < 0)) (numW (digits q.natAbs).length (digits q.natAbs)) * 4294967296).natAbs).length (digits (sgn (decide (q < 0))
     (numW (digits q.natAbs).length (digits q.natAbs)) * 4294967296).natAbs)) + sgn (decide (low < 0)) (numW (digits low.natAbs).length (digits low.natAbs))).natAbs).length (digits (sgn (decide (sgn
     (decide (q < 0)) (numW (digits q.natAbs).length (digits q.natAbs)) * 4294967296 < 0)) (numW (digits (sgn (decide (q < 0)) (numW (digits q.natAbs).length (digits q.natAbs)) * 4294967296).natAbs).length
     (digits (sgn (decide (q < 0)) (numW (digits q.natAbs).length (digits q.natAbs)) * 4294967296).natAbs)) + sgn (decide (low < 0)) (numW (digits low.natAbs).length (digits low.natAbs))).natAbs) && normB
     2 (digits 9223372036854775807) && (digits (sgn (decide (sgn (decide (q < 0)) (numW (digits q.natAbs).length (digits q.natAbs)) * 4294967296 < 0)) (numW (digits (sgn (decide (q < 0)) (numW (digits
     q.natAbs).length (digits q.natAbs)) * 4294967296).natAbs).length (digits (sgn (decide (q < 0)) (numW (digits q.natAbs).length (digits q.natAbs)) * 4294967296).natAbs)) + sgn (decide (low < 0)) (numW
     (digits low.natAbs).length (digits low.natAbs))).natAbs).length.ble (digits (sgn (decide (sgn (decide (q < 0)) (numW (digits q.natAbs).length (digits q.natAbs)) * 4294967296 < 0)) (numW (digits (sgn
     (decide (q < 0)) (numW (digits q.natAbs).length (digits q.natAbs)) * 4294967296).natAbs).length (digits (sgn (decide (q < 0)) (numW (digits q.natAbs).length (digits q.natAbs)) * 4294967296).natAbs)) +
     sgn (decide (low < 0)) (numW (digits low.natAbs).length (digits low.natAbs))).natAbs).length && true && chk (decide (sgn (decide (sgn (decide (q < 0)) (numW (digits q.natAbs).length (digits q.natAbs))
     * sgn false (numW (digits (2 ^ Int.toNat 32)).length (digits (2 ^ Int.toNat 32))) < 0)) (numW (digits (sgn (decide (q < 0)) (numW (digits q.natAbs).length (digits q.natAbs)) * sgn false (numW (digits
     (2 ^ Int.toNat 32)).length (digits (2 ^ Int.toNat 32)))).natAbs).length (digits (sgn (decide (q < 0)) (numW (digits q.natAbs).length (digits q.natAbs)) * sgn false (numW (digits (2 ^ Int.toNat
     32)).length (digits (2 ^ Int.toNat 32)))).natAbs)) + sgn (decide (low < 0)) (numW (digits low.natAbs).length (digits low.natAbs)) < 0) = true → 0 < numW (digits (sgn (decide (sgn (decide (q < 0))
     (numW (digits q.natAbs).length (digits q.natAbs)) * sgn false (numW (digits (2 ^ Int.toNat 32)).length (digits (2 ^ Int.toNat 32))) < 0)) (numW (digits (sgn (decide (q < 0)) (numW (digits
     q.natAbs).length (digits q.natAbs)) * sgn false (numW (digits (2 ^ Int.toNat 32)).length (digits (2 ^ Int.toNat 32)))).natAbs).length (digits (sgn (decide (q < 0)) (numW (digits q.natAbs).length
     (digits q.natAbs)) * sgn false (numW (digits (2 ^ Int.toNat 32)).length (digits (2 ^ Int.toNat 32)))).natAbs)) + sgn (decide (low < 0)) (numW (digits low.natAbs).length (digits
     low.natAbs))).natAbs).length (digits (sgn (decide (sgn (decide (q < 0)) (numW (digits q.natAbs).length (digits q.natAbs)) * sgn false (numW (digits (2 ^ Int.toNat 32)).length (digits (2 ^ Int.toNat
     32))) < 0)) (numW (digits (sgn (decide (q < 0)) (numW (digits q.natAbs).length (digits q.natAbs)) * sgn false (numW (digits (2 ^ Int.toNat 32)).length (digits (2 ^ Int.toNat 32)))).natAbs).length
     (digits (sgn (decide (q < 0)) (numW (digits q.natAbs).length (digits q.natAbs)) * sgn false (numW (digits (2 ^ Int.toNat 32)).length (digits (2 ^ Int.toNat 32)))).natAbs)) + sgn (decide (low < 0))
     (numW (digits low.natAbs).length (digits low.natAbs))).natAbs)) && chk (decide (9223372036854775807 < 0) = true → 0 < numW (digits (Int.natAbs 9223372036854775807)).length (digits (Int.natAbs
     9223372036854775807))) then bif decide (cmpZ (sgn (decide (sgn (decide (sgn (decide (q < 0)) (numW (digits q.natAbs).length (digits q.natAbs)) * 4294967296 < 0)) (numW (digits (sgn (decide (q < 0))
     (numW (digits q.natAbs).length (digits q.natAbs)) * 4294967296).natAbs).length (digits (sgn (decide (q < 0)) (numW (digits q.natAbs).length (digits q.natAbs)) * 4294967296).natAbs)) + sgn (decide (low
     < 0)) (numW (digits low.natAbs).length (digits low.natAbs)) < 0)) (numW (digits (sgn (decide (sgn (decide (q < 0)) (numW (digits q.natAbs).length (digits q.natAbs)) * 4294967296 < 0)) (numW (digits
     (sgn (decide (q < 0)) (numW (digits q.natAbs).length (digits q.natAbs)) * 4294967296).natAbs).length (digits (sgn (decide (q < 0)) (numW (digits q.natAbs).length (digits q.natAbs)) *
     4294967296).natAbs)) + sgn (decide (low < 0)) (numW (digits low.natAbs).length (digits low.natAbs))).natAbs).length (digits (sgn (decide (sgn (decide (q < 0)) (numW (digits q.natAbs).length (digits
     q.natAbs)) * 4294967296 < 0)) (numW (digits (sgn (decide (q < 0)) (numW (digits q.natAbs).length (digits q.natAbs)) * 4294967296).natAbs).length (digits (sgn (decide (q < 0)) (numW (digits
     q.natAbs).length (digits q.natAbs)) * 4294967296).natAbs)) + sgn (decide (low < 0)) (numW (digits low.natAbs).length (digits low.natAbs))).natAbs))) 9223372036854775807 > 0) then on [Value.int
     IntKind.i64 p, Value.int IntKind.i64 low, Value.int IntKind.i64 ns, Value.int IntKind.i64 e, Value.pointer (some (Addr.mk 0 0 none)), Value.bool true, Value.int IntKind.i64 (IntKind.i64.wrap (q + 1))]
     [some (Blk.mk true 2 [Seg.vals [Value.bool (decide (z < 0)), Value.slice (some (Addr.mk 1 0 none)) (digits z.natAbs).length 2]]), some (Blk.mk true 1 [Seg.ints IntKind.u64 (digits z.natAbs).length
     (digits z.natAbs)])] else bif normB (digits (sgn (decide (sgn (decide (q < 0)) (numW (digits q.natAbs).length (digits q.natAbs)) * 4294967296 < 0)) (numW (digits (sgn (decide (q < 0)) (numW (digits
     q.natAbs).length (digits q.natAbs)) * 4294967296).natAbs).length (digits (sgn (decide (q < 0)) (numW (digits q.natAbs).length (digits q.natAbs)) * 4294967296).natAbs)) + sgn (decide (low < 0)) (numW
     (digits low.natAbs).length (digits low.natAbs))).natAbs).length (digits (sgn (decide (sgn (decide (q < 0)) (numW (digits q.natAbs).length (digits q.natAbs)) * 4294967296 < 0)) (numW (digits (sgn
     (decide (q < 0)) (numW (digits q.natAbs).length (digits q.natAbs)) * 4294967296).natAbs).length (digits (sgn (decide (q < 0)) (numW (digits q.natAbs).length (digits q.natAbs)) * 4294967296).natAbs)) +
     sgn (decide (low < 0)) (numW (digits low.natAbs).length (digits low.natAbs))).natAbs) && (digits (sgn (decide (sgn (decide (q < 0)) (numW (digits q.natAbs).length (digits q.natAbs)) * 4294967296 < 0))
     (numW (digits (sgn (decide (q < 0)) (numW (digits q.natAbs).length (digits q.natAbs)) * 4294967296).natAbs).length (digits (sgn (decide (q < 0)) (numW (digits q.natAbs).length (digits q.natAbs)) *
     4294967296).natAbs)) + sgn (decide (low < 0)) (numW (digits low.natAbs).length (digits low.natAbs))).natAbs).length.ble (digits (sgn (decide (sgn (decide (q < 0)) (numW (digits q.natAbs).length
     (digits q.natAbs)) * 4294967296 < 0)) (numW (digits (sgn (decide (q < 0)) (numW (digits q.natAbs).length (digits q.natAbs)) * 4294967296).natAbs).length (digits (sgn (decide (q < 0)) (numW (digits
     q.natAbs).length (digits q.natAbs)) * 4294967296).natAbs)) + sgn (decide (low < 0)) (numW (digits low.natAbs).length (digits low.natAbs))).natAbs).length && (digits (sgn (decide (sgn (decide (q < 0))
     (numW (digits q.natAbs).length (digits q.natAbs)) * 4294967296 < 0)) (numW (digits (sgn (decide (q < 0)) (numW (digits q.natAbs).length (digits q.natAbs)) * 4294967296).natAbs).length (digits (sgn
     (decide (q < 0)) (numW (digits q.natAbs).length (digits q.natAbs)) * 4294967296).natAbs)) + sgn (decide (low < 0)) (numW (digits low.natAbs).length (digits low.natAbs))).natAbs).length.ble
     (OfNat.ofNat 400000) then bif normB (digits z.natAbs).length (digits z.natAbs) && (digits z.natAbs).length.ble (digits z.natAbs).length && (digits z.natAbs).length.ble (OfNat.ofNat 400000) then bif
     normB (digits (sgn (decide (sgn (decide (sgn (decide (q < 0)) (numW (digits q.natAbs).length (digits q.natAbs)) * 4294967296 < 0)) (numW (digits (sgn (decide (q < 0)) (numW (digits q.natAbs).length
     (digits q.natAbs)) * 4294967296).natAbs).length (digits (sgn (decide (q < 0)) (numW (digits q.natAbs).length (digits q.natAbs)) * 4294967296).natAbs)) + sgn (decide (low < 0)) (numW (digits
     low.natAbs).length (digits low.natAbs)) < 0)) (numW (digits (sgn (decide (sgn (decide (q < 0)) (numW (digits q.natAbs).length (digits q.natAbs)) * 4294967296 < 0)) (numW (digits (sgn (decide (q < 0))
     (numW (digits q.natAbs).length (digits q.natAbs)) * 4294967296).natAbs).length (digits (sgn (decide (q < 0)) (numW (digits q.natAbs).length (digits q.natAbs)) * 4294967296).natAbs)) + sgn (decide (low
     < 0)) (numW (digits low.natAbs).length (digits low.natAbs))).natAbs).length (digits (sgn (decide (sgn (decide (q < 0)) (numW (digits q.natAbs).length (digits q.natAbs)) * 4294967296 < 0)) (numW
     (digits (sgn (decide (q < 0)) (numW (digits q.natAbs).length (digits q.natAbs)) * 4294967296).natAbs).length (digits (sgn (decide (q < 0)) (numW (digits q.natAbs).length (digits q.natAbs)) *
     4294967296).natAbs)) + sgn (decide (low < 0)) (numW (digits low.natAbs).length (digits low.natAbs))).natAbs)) - p).natAbs).length (digits (sgn (decide (sgn (decide (sgn (decide (q < 0)) (numW (digits
     q.natAbs).length (digits q.natAbs)) * 4294967296 < 0)) (numW (digits (sgn (decide (q < 0)) (numW (digits q.natAbs).length (digits q.natAbs)) * 4294967296).natAbs).length (digits (sgn (decide (q < 0))
     (numW (digits q.natAbs).length (digits q.natAbs)) * 4294967296).natAbs)) + sgn (decide (low < 0)) (numW (digits low.natAbs).length (digits low.natAbs)) < 0)) (numW (digits (sgn (decide (sgn (decide (q
     < 0)) (numW (digits q.natAbs).length (digits q.natAbs)) * 4294967296 < 0)) (numW (digits (sgn (decide (q < 0)) (numW (digits q.natAbs).length (digits q.natAbs)) * 4294967296).natAbs).length (digits
     (sgn (decide (q < 0)) (numW (digits q.natAbs).length (digits q.natAbs)) * 4294967296).natAbs)) + sgn (decide (low < 0)) (numW (digits low.natAbs).length (digits low.natAbs))).natAbs).length (digits
     (sgn (decide (sgn (decide (q < 0)) (numW (digits q.natAbs).length (digits q.natAbs)) * 4294967296 < 0)) (numW (digits (sgn (decide (q < 0)) (numW (digits q.natAbs).length (digits q.natAbs)) *
     4294967296).natAbs).length (digits (sgn (decide (q < 0)) (numW (digits q.natAbs).length (digits q.natAbs)) * 4294967296).natAbs)) + sgn (decide (low < 0)) (numW (digits low.natAbs).length (digits
     low.natAbs))).natAbs)) - p).natAbs) && normB (digits (sgn (decide (z < 0)) (numW (digits z.natAbs).length (digits z.natAbs)) - p).natAbs).length (digits (sgn (decide (z < 0)) (numW (digits
     z.natAbs).length (digits z.natAbs)) - p).natAbs) && (digits (sgn (decide (sgn (decide (sgn (decide (q < 0)) (numW (digits q.natAbs).length (digits q.natAbs)) * 4294967296 < 0)) (numW (digits (sgn
     (decide (q < 0)) (numW (digits q.natAbs).length (digits q.natAbs)) * 4294967296).natAbs).length (digits (sgn (decide (q < 0)) (numW (digits q.natAbs).length (digits q.natAbs)) * 4294967296).natAbs)) +
     sgn (decide (low < 0)) (numW (digits low.natAbs).length (digits low.natAbs)) < 0)) (numW (digits (sgn (decide (sgn (decide (q < 0)) (numW (digits q.natAbs).length (digits q.natAbs)) * 4294967296 < 0))
     (numW (digits (sgn (decide (q < 0)) (numW (digits q.natAbs).length (digits q.natAbs)) * 4294967296).natAbs).length (digits (sgn (decide (q < 0)) (numW (digits q.natAbs).length (digits q.natAbs)) *
     4294967296).natAbs)) + sgn (decide (low < 0)) (numW (digits low.natAbs).length (digits low.natAbs))).natAbs).length (digits (sgn (decide (sgn (decide (q < 0)) (numW (digits q.natAbs).length (digits
     q.natAbs)) * 4294967296 < 0)) (numW (digits (sgn (decide (q < 0)) (numW (digits q.natAbs).length (digits q.natAbs)) * 4294967296).natAbs).length (digits (sgn (decide (q < 0)) (numW (digits
     q.natAbs).length (digits q.natAbs)) * 4294967296).natAbs)) + sgn (decide (low < 0)) (numW (digits low.natAbs).length (digits low.natAbs))).natAbs)) - p).natAbs).length.ble (digits (sgn (decide (sgn
     (decide (sgn (decide (q < 0)) (numW (digits q.natAbs).length (digits q.natAbs)) * 4294967296 < 0)) (numW (digits (sgn (decide (q < 0)) (numW (digits q.natAbs).length (digits q.natAbs)) *
     4294967296).natAbs).length (digits (sgn (decide (q < 0)) (numW (digits q.natAbs).length (digits q.natAbs)) * 4294967296).natAbs)) + sgn (decide (low < 0)) (numW (digits low.natAbs).length (digits
     low.natAbs)) < 0)) (numW (digits (sgn (decide (sgn (decide (q < 0)) (numW (digits q.natAbs).length (digits q.natAbs)) * 4294967296 < 0)) (numW (digits (sgn (decide (q < 0)) (numW (digits
     q.natAbs).length (digits q.natAbs)) * 4294967296).natAbs).length (digits (sgn (decide (q < 0)) (numW (digits q.natAbs).length (digits q.natAbs)) * 4294967296).natAbs)) + sgn (decide (low < 0)) (numW
     (digits low.natAbs).length (digits low.natAbs))).natAbs).length (digits (sgn (decide (sgn (decide (q < 0)) (numW (digits q.natAbs).length (digits q.natAbs)) * 4294967296 < 0)) (numW (digits (sgn
     (decide (q < 0)) (numW (digits q.natAbs).length (digits q.natAbs)) * 4294967296).natAbs).length (digits (sgn (decide (q < 0)) (numW (digits q.natAbs).length (digits q.natAbs)) * 4294967296).natAbs)) +
     sgn (decide (low < 0)) (numW (digits low.natAbs).length (digits low.natAbs))).natAbs)) - p).natAbs).length && (digits (sgn (decide (z < 0)) (numW (digits z.natAbs).length (digits z.natAbs)) -
     p).natAbs).length.ble (digits (sgn (decide (z < 0)) (numW (digits z.natAbs).length (digits z.natAbs)) - p).natAbs).length && chk (false = true → 0 < numW (digits (sgn (decide (sgn (decide (sgn (decide
     (q < 0)) (numW (digits q.natAbs).length (digits q.natAbs)) * sgn false (numW (digits (2 ^ Int.toNat 32)).length (digits (2 ^ Int.toNat 32))) < 0)) (numW (digits (sgn (decide (q < 0)) (numW (digits
     q.natAbs).length (digits q.natAbs)) * sgn false (numW (digits (2 ^ Int.toNat 32)).length (digits (2 ^ Int.toNat 32)))).natAbs).length (digits (sgn (decide (q < 0)) (numW (digits q.natAbs).length
     (digits q.natAbs)) * sgn false (numW (digits (2 ^ Int.toNat 32)).length (digits (2 ^ Int.toNat 32)))).natAbs)) + sgn (decide (low < 0)) (numW (digits low.natAbs).length (digits low.natAbs)) < 0))
     (numW (digits (sgn (decide (sgn (decide (q < 0)) (numW (digits q.natAbs).length (digits q.natAbs)) * sgn false (numW (digits (2 ^ Int.toNat 32)).length (digits (2 ^ Int.toNat 32))) < 0)) (numW (digits
     (sgn (decide (q < 0)) (numW (digits q.natAbs).length (digits q.natAbs)) * sgn false (numW (digits (2 ^ Int.toNat 32)).length (digits (2 ^ Int.toNat 32)))).natAbs).length (digits (sgn (decide (q < 0))
     (numW (digits q.natAbs).length (digits q.natAbs)) * sgn false (numW (digits (2 ^ Int.toNat 32)).length (digits (2 ^ Int.toNat 32)))).natAbs)) + sgn (decide (low < 0)) (numW (digits low.natAbs).length
     (digits low.natAbs))).natAbs).length (digits (sgn (decide (sgn (decide (q < 0)) (numW (digits q.natAbs).length (digits q.natAbs)) * sgn false (numW (digits (2 ^ Int.toNat 32)).length (digits (2 ^
     Int.toNat 32))) < 0)) (numW (digits (sgn (decide (q < 0)) (numW (digits q.natAbs).length (digits q.natAbs)) * sgn false (numW (digits (2 ^ Int.toNat 32)).length (digits (2 ^ Int.toNat
     32)))).natAbs).length (digits (sgn (decide (q < 0)) (numW (digits q.natAbs).length (digits q.natAbs)) * sgn false (numW (digits (2 ^ Int.toNat 32)).length (digits (2 ^ Int.toNat 32)))).natAbs)) + sgn
     (decide (low < 0)) (numW (digits low.natAbs).length (digits low.natAbs))).natAbs)) - p).natAbs).length (digits (sgn (decide (sgn (decide (sgn (decide (q < 0)) (numW (digits q.natAbs).length (digits
     q.natAbs)) * sgn false (numW (digits (2 ^ Int.toNat 32)).length (digits (2 ^ Int.toNat 32))) < 0)) (numW (digits (sgn (decide (q < 0)) (numW (digits q.natAbs).length (digits q.natAbs)) * sgn false
     (numW (digits (2 ^ Int.toNat 32)).length (digits (2 ^ Int.toNat 32)))).natAbs).length (digits (sgn (decide (q < 0)) (numW (digits q.natAbs).length (digits q.natAbs)) * sgn false (numW (digits (2 ^
     Int.toNat 32)).length (digits (2 ^ Int.toNat 32)))).natAbs)) + sgn (decide (low < 0)) (numW (digits low.natAbs).length (digits low.natAbs)) < 0)) (numW (digits (sgn (decide (sgn (decide (q < 0)) (numW
     (digits q.natAbs).length (digits q.natAbs)) * sgn false (numW (digits (2 ^ Int.toNat 32)).length (digits (2 ^ Int.toNat 32))) < 0)) (numW (digits (sgn (decide (q < 0)) (numW (digits q.natAbs).length
     (digits q.natAbs)) * sgn false (numW (digits (2 ^ Int.toNat 32)).length (digits (2 ^ Int.toNat 32)))).natAbs).length (digits (sgn (decide (q < 0)) (numW (digits q.natAbs).length (digits q.natAbs)) *
     sgn false (numW (digits (2 ^ Int.toNat 32)).length (digits (2 ^ Int.toNat 32)))).natAbs)) + sgn (decide (low < 0)) (numW (digits low.natAbs).length (digits low.natAbs))).natAbs).length (digits (sgn
     (decide (sgn (decide (q < 0)) (numW (digits q.natAbs).length (digits q.natAbs)) * sgn false (numW (digits (2 ^ Int.toNat 32)).length (digits (2 ^ Int.toNat 32))) < 0)) (numW (digits (sgn (decide (q <
     0)) (numW (digits q.natAbs).length (digits q.natAbs)) * sgn false (numW (digits (2 ^ Int.toNat 32)).length (digits (2 ^ Int.toNat 32)))).natAbs).length (digits (sgn (decide (q < 0)) (numW (digits
     q.natAbs).length (digits q.natAbs)) * sgn false (numW (digits (2 ^ Int.toNat 32)).length (digits (2 ^ Int.toNat 32)))).natAbs)) + sgn (decide (low < 0)) (numW (digits low.natAbs).length (digits
     low.natAbs))).natAbs)) - p).natAbs)) && chk (false = true → 0 < numW (digits (sgn (decide (z < 0)) (numW (digits z.natAbs).length (digits z.natAbs)) - p).natAbs).length (digits (sgn (decide (z < 0))
     (numW (digits z.natAbs).length (digits z.natAbs)) - p).natAbs)) then bif decide (cmpZ (sgn false (numW (digits (sgn (decide (sgn (decide (sgn (decide (q < 0)) (numW (digits q.natAbs).length (digits
     q.natAbs)) * 4294967296 < 0)) (numW (digits (sgn (decide (q < 0)) (numW (digits q.natAbs).length (digits q.natAbs)) * 4294967296).natAbs).length (digits (sgn (decide (q < 0)) (numW (digits
     q.natAbs).length (digits q.natAbs)) * 4294967296).natAbs)) + sgn (decide (low < 0)) (numW (digits low.natAbs).length (digits low.natAbs)) < 0)) (numW (digits (sgn (decide (sgn (decide (q < 0)) (numW
     (digits q.natAbs).length (digits q.natAbs)) * 4294967296 < 0)) (numW (digits (sgn (decide (q < 0)) (numW (digits q.natAbs).length (digits q.natAbs)) * 4294967296).natAbs).length (digits (sgn (decide
     (q < 0)) (numW (digits q.natAbs).length (digits q.natAbs)) * 4294967296).natAbs)) + sgn (decide (low < 0)) (numW (digits low.natAbs).length (digits low.natAbs))).natAbs).length (digits (sgn (decide
     (sgn (decide (q < 0)) (numW (digits q.natAbs).length (digits q.natAbs)) * 4294967296 < 0)) (numW (digits (sgn (decide (q < 0)) (numW (digits q.natAbs).length (digits q.natAbs)) *
     4294967296).natAbs).length (digits (sgn (decide (q < 0)) (numW (digits q.natAbs).length (digits q.natAbs)) * 4294967296).natAbs)) + sgn (decide (low < 0)) (numW (digits low.natAbs).length (digits
     low.natAbs))).natAbs)) - p).natAbs).length (digits (sgn (decide (sgn (decide (sgn (decide (q < 0)) (numW (digits q.natAbs).length (digits q.natAbs)) * 4294967296 < 0)) (numW (digits (sgn (decide (q <
     0)) (numW (digits q.natAbs).length (digits q.natAbs)) * 4294967296).natAbs).length (digits (sgn (decide (q < 0)) (numW (digits q.natAbs).length (digits q.natAbs)) * 4294967296).natAbs)) + sgn (decide
     (low < 0)) (numW (digits low.natAbs).length (digits low.natAbs)) < 0)) (numW (digits (sgn (decide (sgn (decide (q < 0)) (numW (digits q.natAbs).length (digits q.natAbs)) * 4294967296 < 0)) (numW
     (digits (sgn (decide (q < 0)) (numW (digits q.natAbs).length (digits q.natAbs)) * 4294967296).natAbs).length (digits (sgn (decide (q < 0)) (numW (digits q.natAbs).length (digits q.natAbs)) *
     4294967296).natAbs)) + sgn (decide (low < 0)) (numW (digits low.natAbs).length (digits low.natAbs))).natAbs).length (digits (sgn (decide (sgn (decide (q < 0)) (numW (digits q.natAbs).length (digits
     q.natAbs)) * 4294967296 < 0)) (numW (digits (sgn (decide (q < 0)) (numW (digits q.natAbs).length (digits q.natAbs)) * 4294967296).natAbs).length (digits (sgn (decide (q < 0)) (numW (digits
     q.natAbs).length (digits q.natAbs)) * 4294967296).natAbs)) + sgn (decide (low < 0)) (numW (digits low.natAbs).length (digits low.natAbs))).natAbs)) - p).natAbs))) (sgn false (numW (digits (sgn (decide
     (z < 0)) (numW (digits z.natAbs).length (digits z.natAbs)) - p).natAbs).length (digits (sgn (decide (z < 0)) (numW (digits z.natAbs).length (digits z.natAbs)) - p).natAbs))) < 0) then on [Value.int
     IntKind.i64 p, Value.int IntKind.i64 low, Value.int IntKind.i64 ns, Value.int IntKind.i64 e, Value.pointer (some (Addr.mk 0 0 none)), Value.bool true, Value.int IntKind.i64 (IntKind.i64.wrap (q + 1))]
     [some (Blk.mk true 2 [Seg.vals [Value.bool (decide (sgn (decide (sgn (decide (q < 0)) (numW (digits q.natAbs).length (digits q.natAbs)) * 4294967296 < 0)) (numW (digits (sgn (decide (q < 0)) (numW
     (digits q.natAbs).length (digits q.natAbs)) * 4294967296).natAbs).length (digits (sgn (decide (q < 0)) (numW (digits q.natAbs).length (digits q.natAbs)) * 4294967296).natAbs)) + sgn (decide (low < 0))
     (numW (digits low.natAbs).length (digits low.natAbs)) < 0)), Value.slice (some (Addr.mk 1 0 none)) (digits (sgn (decide (sgn (decide (q < 0)) (numW (digits q.natAbs).length (digits q.natAbs)) *
     4294967296 < 0)) (numW (digits (sgn (decide (q < 0)) (numW (digits q.natAbs).length (digits q.natAbs)) * 4294967296).natAbs).length (digits (sgn (decide (q < 0)) (numW (digits q.natAbs).length (digits
     q.natAbs)) * 4294967296).natAbs)) + sgn (decide (low < 0)) (numW (digits low.natAbs).length (digits low.natAbs))).natAbs).length 2]]), some (Blk.mk true 1 [Seg.ints IntKind.u64 (digits (sgn (decide
     (sgn (decide (q < 0)) (numW (digits q.natAbs).length (digits q.natAbs)) * 4294967296 < 0)) (numW (digits (sgn (decide (q < 0)) (numW (digits q.natAbs).length (digits q.natAbs)) *
     4294967296).natAbs).length (digits (sgn (decide (q < 0)) (numW (digits q.natAbs).length (digits q.natAbs)) * 4294967296).natAbs)) + sgn (decide (low < 0)) (numW (digits low.natAbs).length (digits
     low.natAbs))).natAbs).length (digits (sgn (decide (sgn (decide (q < 0)) (numW (digits q.natAbs).length (digits q.natAbs)) * 4294967296 < 0)) (numW (digits (sgn (decide (q < 0)) (numW (digits
     q.natAbs).length (digits q.natAbs)) * 4294967296).natAbs).length (digits (sgn (decide (q < 0)) (numW (digits q.natAbs).length (digits q.natAbs)) * 4294967296).natAbs)) + sgn (decide (low < 0)) (numW
     (digits low.natAbs).length (digits low.natAbs))).natAbs)])] else on [Value.int IntKind.i64 p, Value.int IntKind.i64 low, Value.int IntKind.i64 ns, Value.int IntKind.i64 e, Value.pointer (some (Addr.mk
     0 0 none)), Value.bool true, Value.int IntKind.i64 (IntKind.i64.wrap (q + 1))] [some (Blk.mk true 2 [Seg.vals [Value.bool (decide (z < 0)), Value.slice (some (Addr.mk 1 0 none)) (digits
     z.natAbs).length 2]]), some (Blk.mk true 1 [Seg.ints IntKind.u64 (digits z.natAbs).length (digits z.natAbs)])] else none else none else none else none else none else none else none else out (Exit.exit
     0) [Value.int IntKind.i64 p, Value.int IntKind.i64 low, Value.int IntKind.i64 ns, Value.int IntKind.i64 e, Value.pointer (some (Addr.mk 0 0 none)), Value.bool true, Value.int IntKind.i64 q] [some
     (Blk.mk true 2 [Seg.vals [Value.bool (decide (z < 0)), Value.slice (some (Addr.mk 1 0 none)) (digits z.natAbs).length 2]]), some (Blk.mk true 1 [Seg.ints IntKind.u64 (digits z.natAbs).length (digits
     z.natAbs)])]) := by kernel_rfl
--CFEND
end Go.Proofs.Ytfgehfnlkakioaa.VC

/- stamp, and the document's answer for it: the functions. -/
namespace Go.Proofs.Ytfgehfnlkakioaa.VC
open Go Go.Proofs

/-- Sizes below 2^128. -/
theorem nb4 {v : Nat} (h : v < 340282366920938463463374607431768211456) : normB (digits v).length (digits v) = true := small128 h
theorem lb4 {v : Nat} (h : v < 340282366920938463463374607431768211456) : (digits v).length.ble (OfNat.ofNat 400000) = true := len128 h
theorem lb4' {v : Nat} (h : v < 340282366920938463463374607431768211456) : (digits v).length.ble (OfNat.ofNat 399999) = true := ble_t (b := 399999) (Nat.le_trans (digits_len_le (k := 4) h) (by decide))
theorem wb4 {v : Nat} (h : v < 340282366920938463463374607431768211456) : wordsB (digits v).length (digits v) = true := wordsB_norm (small128 h)
theorem ble_self (n : Nat) : n.ble n = true := ble_t (Nat.le_refl n)
theorem wi32e (x : Int) : IntKind.i32.wrap x = (x + 2147483648) % 4294967296 - 2147483648 := by
  simp only [IntKind.wrap, IntKind.signed, IntKind.bits]
  simp
  omega
theorem wu32e (x : Int) : IntKind.u32.wrap x = x % 4294967296 := by
  simp only [IntKind.wrap, IntKind.signed, IntKind.bits]
  simp

theorem S76_ok : SpecOK Try.prog S76 := mkS_cons ok92 (mkS_nil _)
theorem ok76 : EntryOK Try.prog 76 F76 := by
  refine EntryOK.of_fn S76_ok follows_ok Try.func76 (by kernel_rfl) (by kernel_rfl) ?_
  intro args h k out hF
  unfold F76 at hF
  split at hF
  · rename_i s n c t m d n1 xs m1 ys
    obtain ⟨hb, hF2⟩ := bif_t hF
    simp only [Bool.and_eq_true] at hb
    obtain ⟨⟨⟨⟨⟨hx, hy⟩, hn⟩, hm⟩, hs⟩, ht⟩ := hb
    have hs := chk_iff.1 hs
    have ht := chk_iff.1 ht
    refine ⟨_, _, hF2, fun _ => ⟨noL, noL_ok, ?_⟩⟩
    rw [cf76, hx, hy, hn, hm]
    have put : ∀ {x y : Int}, x = y → some (Res.ret (.int .i64 x) [wb n1 xs, wb m1 ys]) = some (Res.ret (.int .i64 y) [wb n1 xs, wb m1 ys]) := fun e => by rw [e]
    unfold cmpI cmpZ sgn
    cases s <;> cases t <;> simp only [condT, condF, Bool.not_true, Bool.not_false, Bool.and_self] <;> refine put ?_
    · repeat' split
      all_goals omega
    · have := ht rfl; repeat' split
      all_goals omega
    · have := hs rfl; repeat' split
      all_goals omega
    · repeat' split
      all_goals omega
  · cases hF
theorem S98_ok : SpecOK Try.prog S98 := mkS_cons ok31 (mkS_nil _)
theorem ok98 : EntryOK Try.prog 98 F31 := by
  refine EntryOK.of_fn S98_ok follows_ok Try.func98 (by kernel_rfl) (by kernel_rfl) ?_
  intro args h k out hF
  unfold F31 at hF
  split at hF
  · rename_i s n c n1 xs
    obtain ⟨hb, hF2⟩ := bif_t hF
    exact ⟨_, _, hF2, fun _ => ⟨noL, noL_ok, by rw [cf98, hb, condT]⟩⟩
  · cases hF
theorem S99_ok : SpecOK Try.prog S99 := mkS_cons ok27 (mkS_cons ok28 (mkS_cons ok29 (mkS_cons ok98 (mkS_nil _))))
theorem nb232 : normB 2 (digits 4294967296) = true := normB_digits (v := 4294967296) (by decide)
theorem ok99 : EntryOK Try.prog 99 F99 := by
  refine EntryOK.of_fn S99_ok follows_ok Try.func99 (by kernel_rfl) (by kernel_rfl) ?_
  intro args h k out hF
  unfold F99 at hF
  split at hF
  · rename_i a
    refine ⟨_, _, hF, fun real => ⟨noL, noL_ok, ?_⟩⟩
    have ha := i64r real 0 rfl
    rw [cf99]
    simp (disch := omega) only [numW_digits, sgn_self, nb4, lb4', nb232, ble_self, Bool.and_self, condT]
    rw [hold_id (by omega), hold_id (by omega)]
  · cases hF
theorem S100_ok : SpecOK Try.prog S100 := mkS_cons ok29 (mkS_cons ok36 (mkS_nil _))
theorem ok100 : EntryOK Try.prog 100 F100 := by
  refine EntryOK.of_fn S100_ok follows_ok Try.func100 (by kernel_rfl) (by kernel_rfl) ?_
  intro args h k out hF
  unfold F100 at hF
  split at hF
  · rename_i s n c p n1 xs
    obtain ⟨hb, hF2⟩ := bif_t hF
    simp only [Bool.and_eq_true] at hb
    obtain ⟨⟨hx, hn⟩, hn4⟩ := hb
    refine ⟨_, _, hF2, fun real => ⟨noL, noL_ok, ?_⟩⟩
    have ha := i64r real 1 rfl
    rw [cf100, show n.ble (OfNat.ofNat 400000) = true from hn4, hx, hn]
    simp (disch := omega) only [numW_digits, sgn_self, nb4, lb4, ble_self, Bool.and_self, condT]
  · cases hF
theorem ok97 : EntryOK Try.prog 97 F97 := by
  refine EntryOK.of_fn (mkS_nil _) follows_ok Try.func97 (by kernel_rfl) (by kernel_rfl) ?_
  intro args h k out hF
  unfold F97 at hF
  split at hF
  · exact ⟨_, _, hF, fun _ => ⟨noL, noL_ok, cf97 _ _⟩⟩
  · cases hF

/-- The second near a pivot whose low half is told. -/
def nearZ (p low : Int) : Int :=
  let s := p + ((low - p + 2147483648) % 4294967296 - 2147483648)
  if s > 9223372036854775807 then s - 4294967296 else if s < -9223372036854775808 then s + 4294967296 else s
def nsZ (f : Int) : Int := if 999999999 < upI f 1000000000 4294967296 then 999999999 else upI f 1000000000 4294967296
def F39 : FSpec := fun args h k => match args, h with
  | [.int .u64 a, .int .i64 p], [] => k (.tuple ⟨[w63 (nearZ p (a / 4294967296)), w63 (nsZ (a % 4294967296))]⟩) []
  | _, _ => none
theorem S39_ok : SpecOK Try.prog S39 := mkS_cons ok21 (mkS_cons ok97 (mkS_nil _))
theorem ok39 : EntryOK Try.prog 39 F39 := by
  refine EntryOK.of_fn S39_ok follows_ok Try.func39 (by kernel_rfl) (by kernel_rfl) ?_
  intro args h k out hF
  unfold F39 at hF
  split at hF
  · rename_i a p
    refine ⟨_, _, hF, fun real => ⟨noL, noL_ok, ?_⟩⟩
    have ha := u64r real 0 rfl
    have hp := i64r real 1 rfl
    have e1 : IntKind.i64.wrap (IntKind.u32.wrap a) = a % 4294967296 := by rw [wu32e, wi64e]; omega
    have e2 : IntKind.u32.wrap (IntKind.i64.wrap (a.fdiv 4294967296)) = a / 4294967296 := by rw [fd32, wi64e, wu32e]; omega
    have e3 : IntKind.i32.wrap (IntKind.u32.wrap (a / 4294967296 - IntKind.u32.wrap p)) = (a / 4294967296 - p + 2147483648) % 4294967296 - 2147483648 := by rw [wu32e, wu32e, wi32e]; omega
    rw [cf39, e1, e2, e3]
    unfold nearZ nsZ
    have put : ∀ {x y z : Int}, x = y → some (Res.ret (.tuple ⟨[w63 x, w63 z]⟩) []) = some (Res.ret (.tuple ⟨[w63 y, w63 z]⟩) []) := fun e => by rw [e]
    generalize hoff : (a / 4294967296 - p + 2147483648) % 4294967296 - 2147483648 = off
    have ho : -2147483648 ≤ off ∧ off ≤ 2147483647 := by omega
    rw [swrap (x := off) (by omega) (by omega)]
    simp only [wi64e]
    refine dc (fun c1 => dc (fun c2 => put ?_) (fun c2 => dc (fun c3 => ?_) (fun c3 => put ?_))) (fun c1 => dc (fun c3 => dc (fun c4 => put ?_) (fun c4 => put ?_)) (fun c3 => put ?_))
    all_goals first
      | omega
      | (repeat' split) <;> omega
  · cases hF
end Go.Proofs.Ytfgehfnlkakioaa.VC

/- The document's answer for stamps: Split's loop. -/
namespace Go.Proofs.Ytfgehfnlkakioaa.VC
open Go Go.Proofs

theorem chkz {z : Int} : chk (decide (z < 0) = true → 0 < z.natAbs) = true := chk_t (fun h => by have := of_decide_eq_true h; omega)
theorem chkf {p : Prop} : chk (false = true → p) = true := chk_t (fun h => by cases h)
theorem chkt {p : Prop} (h : p) : chk (true = true → p) = true := chk_t (fun _ => h)
theorem cmp_lt {a b : Int} : decide (cmpZ a b < 0) = decide (a < b) := by
  refine decide_eq_decide.2 ?_
  unfold cmpZ
  split
  · omega
  · split <;> omega
theorem cmp_gt {a b : Int} : decide (cmpZ a b > 0) = decide (a > b) := by
  refine decide_eq_decide.2 ?_
  unfold cmpZ
  split
  · omega
  · split <;> omega
theorem sgnF (v : Nat) : sgn false v = (v : Int) := rfl
theorem nb263 : normB 2 (digits 9223372036854775808) = true := normB_digits (v := 9223372036854775808) (by decide)
theorem nb2631 : normB 2 (digits 9223372036854775807) = true := normB_digits (v := 9223372036854775807) (by decide)
abbrev st40 (p low ns e : Int) (f : Bool) (q : Int) : List Value := [w63 p, w63 low, w63 ns, w63 e, pt 0, .bool f, w63 q]
abbrev zX (z : Int) : Option Blk := bx (decide (z < 0)) 1 (digits z.natAbs).length 2

theorem roundA {p low ns e q : Int} (hl : 0 ≤ low ∧ low < 4294967296) (hq : -2147483650 ≤ q ∧ q ≤ 2147483650) (he : -2147483648 ≤ e ∧ e ≤ 2147483648) (hqe : q ≤ e + 1) {on : List Value → Heap → Out} {out : Exit → List Value → Heap → Out} :
    roundK Try.prog S40 noL Try.f40.ntmps 0 (loopOf Try.f40 0) live40 (st40 p low ns e false q) [nb false] on out =
    bif decide (q * 4294967296 + low < -9223372036854775808) then on (st40 p low ns e false (q + 1)) [nb false]
    else bif decide (q * 4294967296 + low > 9223372036854775807) then on (st40 p low ns e false (q + 1)) [nb false]
    else on (st40 p low ns e true (q + 1)) [zX (q * 4294967296 + low), zB (q * 4294967296 + low)] := by
  rw [cf40A]
  simp (disch := omega) only [numW_digits, sgn_self, nb4, lb4, nb232, nb263, nb2631, ble_self, Bool.and_self, condT, chkz, cmp_lt, cmp_gt, swrap, dec_t hqe]
  rw [chk_t (fun h => absurd h (by decide))]
  simp only [Bool.and_self, condT]

theorem roundB {p low ns e q y : Int} (hp : -9223372036854775808 ≤ p ∧ p ≤ 9223372036854775807) (hl : 0 ≤ low ∧ low < 4294967296) (hq : -2147483650 ≤ q ∧ q ≤ 2147483650) (he : -2147483648 ≤ e ∧ e ≤ 2147483648) (hqe : q ≤ e + 1) (hy : -9223372036854775808 ≤ y ∧ y ≤ 9223372036854775807) {on : List Value → Heap → Out} {out : Exit → List Value → Heap → Out} :
    roundK Try.prog S40 noL Try.f40.ntmps 0 (loopOf Try.f40 0) live40 (st40 p low ns e true q) [zX y, zB y] on out =
    bif decide (q * 4294967296 + low < -9223372036854775808) then on (st40 p low ns e true (q + 1)) [zX y, zB y]
    else bif decide (q * 4294967296 + low > 9223372036854775807) then on (st40 p low ns e true (q + 1)) [zX y, zB y]
    else bif decide ((q * 4294967296 + low - p).natAbs < (y - p).natAbs) then on (st40 p low ns e true (q + 1)) [zX (q * 4294967296 + low), zB (q * 4294967296 + low)]
    else on (st40 p low ns e true (q + 1)) [zX y, zB y] := by
  rw [cf40B]
  simp (disch := omega) only [numW_digits, sgn_self, nb4, lb4, nb232, nb263, nb2631, ble_self, Bool.and_self, condT, chkz, chkf, cmp_lt, cmp_gt, swrap, sgnF, dec_t hqe]
  rw [chk_t (fun h => absurd h (by decide))]
  simp only [Bool.and_self, condT]
  rw [show decide (((q * 4294967296 + low - p).natAbs : Int) < ((y - p).natAbs : Int)) = decide ((q * 4294967296 + low - p).natAbs < (y - p).natAbs) from decide_eq_decide.2 (by omega)]

theorem roundX {p low ns e q y : Int} (he : -2147483648 ≤ e ∧ e ≤ 2147483648) (hqe : ¬ q ≤ e + 1) {on : List Value → Heap → Out} {out : Exit → List Value → Heap → Out} :
    roundK Try.prog S40 noL Try.f40.ntmps 0 (loopOf Try.f40 0) live40 (st40 p low ns e true q) [zX y, zB y] on out = out (.exit 0) (st40 p low ns e true q) [zX y, zB y] := by
  rw [cf40B, swrap (x := e + 1) (by omega) (by omega), dec_f hqe, condF]

theorem loop40 {p low ns e : Int} (hp : -9223372036854775808 ≤ p ∧ p ≤ 9223372036854775807) (hl : 0 ≤ low ∧ low < 4294967296) (he : e = p / 4294967296) {k : Exit → List Value → Heap → Out} :
    loopN Try.prog S40 noL Try.f40.ntmps 0 (loopOf Try.f40 0) live40 4 (st40 p low ns e false (e - 1)) [nb false] k = k (.exit 0) (st40 p low ns e true (e + 2)) [zX (nearZ p low), zB (nearZ p low)] := by
  have fin : ∀ y : Int, y = nearZ p low → loopN Try.prog S40 noL Try.f40.ntmps 0 (loopOf Try.f40 0) live40 1 (st40 p low ns e true (e - 1 + 1 + 1 + 1)) [zX y, zB y] k = k (.exit 0) (st40 p low ns e true (e + 2)) [zX (nearZ p low), zB (nearZ p low)] := by
    intro y hy
    subst hy
    rw [loopN_succ, roundX (by omega) (by omega), show e - 1 + 1 + 1 + 1 = e + 2 by omega]
  have third : ∀ y : Int, -9223372036854775808 ≤ y ∧ y ≤ 9223372036854775807 → (if (e + 1) * 4294967296 + low > 9223372036854775807 then y else if ((e + 1) * 4294967296 + low - p).natAbs < (y - p).natAbs then (e + 1) * 4294967296 + low else y) = nearZ p low →
      loopN Try.prog S40 noL Try.f40.ntmps 0 (loopOf Try.f40 0) live40 2 (st40 p low ns e true (e - 1 + 1 + 1)) [zX y, zB y] k = k (.exit 0) (st40 p low ns e true (e + 2)) [zX (nearZ p low), zB (nearZ p low)] := by
    intro y hy hn
    rw [loopN_succ, roundB hp hl (by omega) (by omega) (by omega) hy, show (e - 1 + 1 + 1) * 4294967296 + low = (e + 1) * 4294967296 + low by omega]
    refine dc (fun c => by omega) (fun _ => dc (fun c => ?_) (fun c => dc (fun c2 => ?_) (fun c2 => ?_)))
    · exact fin y (by rw [← hn, if_pos c])
    · exact fin _ (by rw [← hn, if_neg c, if_pos c2])
    · exact fin _ (by rw [← hn, if_neg c, if_neg c2])
  rw [loopN_succ, roundA hl (by omega) (by omega) (by omega)]
  refine dc (fun c1 => ?_) (fun c1 => dc (fun c => by omega) (fun _ => ?_))
  · rw [loopN_succ, roundA hl (by omega) (by omega) (by omega), show (e - 1 + 1) * 4294967296 + low = e * 4294967296 + low by omega, dec_f (by omega), dec_f (by omega)]
    simp only [condF]
    refine third _ (by omega) ?_
    unfold nearZ
    simp only
    repeat' split
    all_goals omega
  · rw [loopN_succ, roundB hp hl (by omega) (by omega) (by omega) (by omega), show (e - 1 + 1) * 4294967296 + low = e * 4294967296 + low by omega, dec_f (by omega), dec_f (by omega)]
    simp only [condF]
    refine dc (fun c2 => third _ (by omega) ?_) (fun c2 => third _ (by omega) ?_)
    · unfold nearZ
      simp only
      repeat' split
      all_goals omega
    · unfold nearZ
      simp only
      repeat' split
      all_goals omega

noncomputable def L40f : LF := fun vs h k => match vs, h with
  | [.int .i64 p, .int .i64 low, .int .i64 ns, .int .i64 e, .pointer (some ⟨0, 0, none⟩), .bool false, .int .i64 q], [some ⟨true, 2, [.vals [.bool false, .slice none 0 0]]⟩] =>
    bif chk ((-9223372036854775808 ≤ p ∧ p ≤ 9223372036854775807) ∧ (0 ≤ low ∧ low < 4294967296) ∧ e = p / 4294967296 ∧ q = e - 1) then
      k (.exit 0) (st40 p low ns e true (e + 2)) [zX (nearZ p low), zB (nearZ p low)] else none
  | _, _ => none
theorem S40_ok : SpecOK Try.prog S40 := mkS_cons ok27 (mkS_cons ok29 (mkS_cons ok32 (mkS_cons ok35 (mkS_cons ok76 (mkS_cons ok86 (mkS_cons ok98 (mkS_cons ok99 (mkS_cons ok100 (mkS_nil _)))))))))
theorem loopOK40 : LoopOK Try.prog Try.f40.ntmps 0 (loopOf Try.f40 0) live40 L40f := by
  refine LoopOK.of_rounds S40_ok follows_ok (L := noL) noL_ok ?_
  intro vs h k out hk
  unfold L40f at hk
  split at hk
  · rename_i p low ns e q
    obtain ⟨hb, hk2⟩ := bif_t hk
    obtain ⟨hp, hl, he, rfl⟩ := chk_iff.1 hb
    exact ⟨_, _, _, hk2, fun _ => ⟨4, loop40 hp hl he⟩⟩
  · cases hk
noncomputable def L40 : LSpec := oneL 8 live40 L40f
theorem loops40 : LoopsOK Try.prog L40 Try.f40.ntmps 0 (bodyOf Try.f40) := loops_one rfl (by kernel_rfl) loopOK40
--CF cf40 (a p : Int) :: fnK Try.prog S40 L40 Try.f40 [w64 a, w63 p] []
theorem cf40 (a p : Int) : fnK Try.prog S40 L40 Try.f40 [w64 a, w63 p] [] =
     (bif normB (digits (IntKind.i64.wrap (a.tmod 4294967296)).natAbs).length (digits (IntKind.i64.wrap (a.tmod 4294967296)).natAbs) && normB 1 (digits 1000000000) && (digits (IntKind.i64.wrap (a.tmod
     4294967296)).natAbs).length.ble (digits (IntKind.i64.wrap (a.tmod 4294967296)).natAbs).length && true && (digits (IntKind.i64.wrap (a.tmod 4294967296)).natAbs).length.ble (OfNat.ofNat 400000) && true
     then bif normB (digits (sgn (decide (IntKind.i64.wrap (a.tmod 4294967296) < 0)) (numW (digits (IntKind.i64.wrap (a.tmod 4294967296)).natAbs).length (digits (IntKind.i64.wrap (a.tmod
     4294967296)).natAbs)) * 1000000000).natAbs).length (digits (sgn (decide (IntKind.i64.wrap (a.tmod 4294967296) < 0)) (numW (digits (IntKind.i64.wrap (a.tmod 4294967296)).natAbs).length (digits
     (IntKind.i64.wrap (a.tmod 4294967296)).natAbs)) * 1000000000).natAbs) && normB 2 (digits 4294967296) && (digits (sgn (decide (IntKind.i64.wrap (a.tmod 4294967296) < 0)) (numW (digits (IntKind.i64.wrap
     (a.tmod 4294967296)).natAbs).length (digits (IntKind.i64.wrap (a.tmod 4294967296)).natAbs)) * 1000000000).natAbs).length.ble (digits (sgn (decide (IntKind.i64.wrap (a.tmod 4294967296) < 0)) (numW
     (digits (IntKind.i64.wrap (a.tmod 4294967296)).natAbs).length (digits (IntKind.i64.wrap (a.tmod 4294967296)).natAbs)) * 1000000000).natAbs).length && true && (digits (sgn (decide (IntKind.i64.wrap
     (a.tmod 4294967296) < 0)) (numW (digits (IntKind.i64.wrap (a.tmod 4294967296)).natAbs).length (digits (IntKind.i64.wrap (a.tmod 4294967296)).natAbs)) * 1000000000).natAbs).length.ble (OfNat.ofNat
     399999) && true && true && true then bif normB (digits (-(-sgn (decide (sgn (decide (IntKind.i64.wrap (a.tmod 4294967296) < 0)) (numW (digits (IntKind.i64.wrap (a.tmod 4294967296)).natAbs).length
     (digits (IntKind.i64.wrap (a.tmod 4294967296)).natAbs)) * 1000000000 < 0)) (numW (digits (sgn (decide (IntKind.i64.wrap (a.tmod 4294967296) < 0)) (numW (digits (IntKind.i64.wrap (a.tmod
     4294967296)).natAbs).length (digits (IntKind.i64.wrap (a.tmod 4294967296)).natAbs)) * 1000000000).natAbs).length (digits (sgn (decide (IntKind.i64.wrap (a.tmod 4294967296) < 0)) (numW (digits
     (IntKind.i64.wrap (a.tmod 4294967296)).natAbs).length (digits (IntKind.i64.wrap (a.tmod 4294967296)).natAbs)) * 1000000000).natAbs)) / 4294967296)).natAbs).length (digits (-(-sgn (decide (sgn (decide
     (IntKind.i64.wrap (a.tmod 4294967296) < 0)) (numW (digits (IntKind.i64.wrap (a.tmod 4294967296)).natAbs).length (digits (IntKind.i64.wrap (a.tmod 4294967296)).natAbs)) * 1000000000 < 0)) (numW (digits
     (sgn (decide (IntKind.i64.wrap (a.tmod 4294967296) < 0)) (numW (digits (IntKind.i64.wrap (a.tmod 4294967296)).natAbs).length (digits (IntKind.i64.wrap (a.tmod 4294967296)).natAbs)) *
     1000000000).natAbs).length (digits (sgn (decide (IntKind.i64.wrap (a.tmod 4294967296) < 0)) (numW (digits (IntKind.i64.wrap (a.tmod 4294967296)).natAbs).length (digits (IntKind.i64.wrap (a.tmod
     4294967296)).natAbs)) * 1000000000).natAbs)) / 4294967296)).natAbs) && (digits (-(-sgn (decide (sgn (decide (IntKind.i64.wrap (a.tmod 4294967296) < 0)) (numW (digits (IntKind.i64.wrap (a.tmod
     4294967296)).natAbs).length (digits (IntKind.i64.wrap (a.tmod 4294967296)).natAbs)) * 1000000000 < 0)) (numW (digits (sgn (decide (IntKind.i64.wrap (a.tmod 4294967296) < 0)) (numW (digits
     (IntKind.i64.wrap (a.tmod 4294967296)).natAbs).length (digits (IntKind.i64.wrap (a.tmod 4294967296)).natAbs)) * 1000000000).natAbs).length (digits (sgn (decide (IntKind.i64.wrap (a.tmod 4294967296) <
     0)) (numW (digits (IntKind.i64.wrap (a.tmod 4294967296)).natAbs).length (digits (IntKind.i64.wrap (a.tmod 4294967296)).natAbs)) * 1000000000).natAbs)) / 4294967296)).natAbs).length.ble (digits (-(-sgn
     (decide (sgn (decide (IntKind.i64.wrap (a.tmod 4294967296) < 0)) (numW (digits (IntKind.i64.wrap (a.tmod 4294967296)).natAbs).length (digits (IntKind.i64.wrap (a.tmod 4294967296)).natAbs)) *
     1000000000 < 0)) (numW (digits (sgn (decide (IntKind.i64.wrap (a.tmod 4294967296) < 0)) (numW (digits (IntKind.i64.wrap (a.tmod 4294967296)).natAbs).length (digits (IntKind.i64.wrap (a.tmod
     4294967296)).natAbs)) * 1000000000).natAbs).length (digits (sgn (decide (IntKind.i64.wrap (a.tmod 4294967296) < 0)) (numW (digits (IntKind.i64.wrap (a.tmod 4294967296)).natAbs).length (digits
     (IntKind.i64.wrap (a.tmod 4294967296)).natAbs)) * 1000000000).natAbs)) / 4294967296)).natAbs).length then bif decide (hold (sgn (decide (-(-sgn (decide (sgn (decide (IntKind.i64.wrap (a.tmod
     4294967296) < 0)) (numW (digits (IntKind.i64.wrap (a.tmod 4294967296)).natAbs).length (digits (IntKind.i64.wrap (a.tmod 4294967296)).natAbs)) * 1000000000 < 0)) (numW (digits (sgn (decide
     (IntKind.i64.wrap (a.tmod 4294967296) < 0)) (numW (digits (IntKind.i64.wrap (a.tmod 4294967296)).natAbs).length (digits (IntKind.i64.wrap (a.tmod 4294967296)).natAbs)) * 1000000000).natAbs).length
     (digits (sgn (decide (IntKind.i64.wrap (a.tmod 4294967296) < 0)) (numW (digits (IntKind.i64.wrap (a.tmod 4294967296)).natAbs).length (digits (IntKind.i64.wrap (a.tmod 4294967296)).natAbs)) *
     1000000000).natAbs)) / 4294967296) < 0)) (numW (digits (-(-sgn (decide (sgn (decide (IntKind.i64.wrap (a.tmod 4294967296) < 0)) (numW (digits (IntKind.i64.wrap (a.tmod 4294967296)).natAbs).length
     (digits (IntKind.i64.wrap (a.tmod 4294967296)).natAbs)) * 1000000000 < 0)) (numW (digits (sgn (decide (IntKind.i64.wrap (a.tmod 4294967296) < 0)) (numW (digits (IntKind.i64.wrap (a.tmod
     4294967296)).natAbs).length (digits (IntKind.i64.wrap (a.tmod 4294967296)).natAbs)) * 1000000000).natAbs).length (digits (sgn (decide (IntKind.i64.wrap (a.tmod 4294967296) < 0)) (numW (digits
     (IntKind.i64.wrap (a.tmod 4294967296)).natAbs).length (digits (IntKind.i64.wrap (a.tmod 4294967296)).natAbs)) * 1000000000).natAbs)) / 4294967296)).natAbs).length (digits (-(-sgn (decide (sgn (decide
     (IntKind.i64.wrap (a.tmod 4294967296) < 0)) (numW (digits (IntKind.i64.wrap (a.tmod 4294967296)).natAbs).length (digits (IntKind.i64.wrap (a.tmod 4294967296)).natAbs)) * 1000000000 < 0)) (numW (digits
     (sgn (decide (IntKind.i64.wrap (a.tmod 4294967296) < 0)) (numW (digits (IntKind.i64.wrap (a.tmod 4294967296)).natAbs).length (digits (IntKind.i64.wrap (a.tmod 4294967296)).natAbs)) *
     1000000000).natAbs).length (digits (sgn (decide (IntKind.i64.wrap (a.tmod 4294967296) < 0)) (numW (digits (IntKind.i64.wrap (a.tmod 4294967296)).natAbs).length (digits (IntKind.i64.wrap (a.tmod
     4294967296)).natAbs)) * 1000000000).natAbs)) / 4294967296)).natAbs))) > 999999999) then bif chk ((-9223372036854775808 ≤ p ∧ p ≤ 9223372036854775807) ∧ (0 ≤ IntKind.i64.wrap (IntKind.u64.wrap (a.tdiv
     4294967296)) ∧ IntKind.i64.wrap (IntKind.u64.wrap (a.tdiv 4294967296)) < 4294967296) ∧ p / 4294967296 = p / 4294967296 ∧ IntKind.i64.wrap (p / 4294967296 - 1) = p / 4294967296 - 1) then bif normB
     (digits (nearZ p (IntKind.i64.wrap (IntKind.u64.wrap (a.tdiv 4294967296)))).natAbs).length (digits (nearZ p (IntKind.i64.wrap (IntKind.u64.wrap (a.tdiv 4294967296)))).natAbs) && (digits (nearZ p
     (IntKind.i64.wrap (IntKind.u64.wrap (a.tdiv 4294967296)))).natAbs).length.ble (digits (nearZ p (IntKind.i64.wrap (IntKind.u64.wrap (a.tdiv 4294967296)))).natAbs).length then some (Res.ret (Value.tuple
     (Array.mk [Value.int IntKind.i64 (hold (sgn (decide (nearZ p (IntKind.i64.wrap (IntKind.u64.wrap (a.tdiv 4294967296))) < 0)) (numW (digits (nearZ p (IntKind.i64.wrap (IntKind.u64.wrap (a.tdiv
     4294967296)))).natAbs).length (digits (nearZ p (IntKind.i64.wrap (IntKind.u64.wrap (a.tdiv 4294967296)))).natAbs)))), Value.int IntKind.i64 999999999])) []) else none else none else bif chk
     ((-9223372036854775808 ≤ p ∧ p ≤ 9223372036854775807) ∧ (0 ≤ IntKind.i64.wrap (IntKind.u64.wrap (a.tdiv 4294967296)) ∧ IntKind.i64.wrap (IntKind.u64.wrap (a.tdiv 4294967296)) < 4294967296) ∧ p /
     4294967296 = p / 4294967296 ∧ IntKind.i64.wrap (p / 4294967296 - 1) = p / 4294967296 - 1) then bif normB (digits (nearZ p (IntKind.i64.wrap (IntKind.u64.wrap (a.tdiv 4294967296)))).natAbs).length
     (digits (nearZ p (IntKind.i64.wrap (IntKind.u64.wrap (a.tdiv 4294967296)))).natAbs) && (digits (nearZ p (IntKind.i64.wrap (IntKind.u64.wrap (a.tdiv 4294967296)))).natAbs).length.ble (digits (nearZ p
     (IntKind.i64.wrap (IntKind.u64.wrap (a.tdiv 4294967296)))).natAbs).length then some (Res.ret (Value.tuple (Array.mk [Value.int IntKind.i64 (hold (sgn (decide (nearZ p (IntKind.i64.wrap
     (IntKind.u64.wrap (a.tdiv 4294967296))) < 0)) (numW (digits (nearZ p (IntKind.i64.wrap (IntKind.u64.wrap (a.tdiv 4294967296)))).natAbs).length (digits (nearZ p (IntKind.i64.wrap (IntKind.u64.wrap
     (a.tdiv 4294967296)))).natAbs)))), Value.int IntKind.i64 (hold (sgn (decide (-(-sgn (decide (sgn (decide (IntKind.i64.wrap (a.tmod 4294967296) < 0)) (numW (digits (IntKind.i64.wrap (a.tmod
     4294967296)).natAbs).length (digits (IntKind.i64.wrap (a.tmod 4294967296)).natAbs)) * 1000000000 < 0)) (numW (digits (sgn (decide (IntKind.i64.wrap (a.tmod 4294967296) < 0)) (numW (digits
     (IntKind.i64.wrap (a.tmod 4294967296)).natAbs).length (digits (IntKind.i64.wrap (a.tmod 4294967296)).natAbs)) * 1000000000).natAbs).length (digits (sgn (decide (IntKind.i64.wrap (a.tmod 4294967296) <
     0)) (numW (digits (IntKind.i64.wrap (a.tmod 4294967296)).natAbs).length (digits (IntKind.i64.wrap (a.tmod 4294967296)).natAbs)) * 1000000000).natAbs)) / 4294967296) < 0)) (numW (digits (-(-sgn (decide
     (sgn (decide (IntKind.i64.wrap (a.tmod 4294967296) < 0)) (numW (digits (IntKind.i64.wrap (a.tmod 4294967296)).natAbs).length (digits (IntKind.i64.wrap (a.tmod 4294967296)).natAbs)) * 1000000000 < 0))
     (numW (digits (sgn (decide (IntKind.i64.wrap (a.tmod 4294967296) < 0)) (numW (digits (IntKind.i64.wrap (a.tmod 4294967296)).natAbs).length (digits (IntKind.i64.wrap (a.tmod 4294967296)).natAbs)) *
     1000000000).natAbs).length (digits (sgn (decide (IntKind.i64.wrap (a.tmod 4294967296) < 0)) (numW (digits (IntKind.i64.wrap (a.tmod 4294967296)).natAbs).length (digits (IntKind.i64.wrap (a.tmod
     4294967296)).natAbs)) * 1000000000).natAbs)) / 4294967296)).natAbs).length (digits (-(-sgn (decide (sgn (decide (IntKind.i64.wrap (a.tmod 4294967296) < 0)) (numW (digits (IntKind.i64.wrap (a.tmod
     4294967296)).natAbs).length (digits (IntKind.i64.wrap (a.tmod 4294967296)).natAbs)) * 1000000000 < 0)) (numW (digits (sgn (decide (IntKind.i64.wrap (a.tmod 4294967296) < 0)) (numW (digits
     (IntKind.i64.wrap (a.tmod 4294967296)).natAbs).length (digits (IntKind.i64.wrap (a.tmod 4294967296)).natAbs)) * 1000000000).natAbs).length (digits (sgn (decide (IntKind.i64.wrap (a.tmod 4294967296) <
     0)) (numW (digits (IntKind.i64.wrap (a.tmod 4294967296)).natAbs).length (digits (IntKind.i64.wrap (a.tmod 4294967296)).natAbs)) * 1000000000).natAbs)) / 4294967296)).natAbs))))])) []) else none else
     none else none else none else none) := by kernel_rfl
--CFEND
end Go.Proofs.Ytfgehfnlkakioaa.VC

/- StampSplit: the law's closed form. -/
namespace Go.Proofs.Ytfgehfnlkakioaa.VC
open Go Go.Proofs

theorem nb30 : normB 1 (digits 1000000000) = true := normB_digits (v := 1000000000) (by decide)
theorem ok40 : EntryOK Try.prog 40 F39 := by
  refine EntryOK.of_fn S40_ok follows_ok Try.func40 (by kernel_rfl) (by kernel_rfl) ?_
  intro args h k out hF
  unfold F39 at hF
  split at hF
  · rename_i a p
    refine ⟨_, _, hF, fun real => ⟨L40, loops40, ?_⟩⟩
    have ha := u64r real 0 rfl
    have hp := i64r real 1 rfl
    have e1 : IntKind.i64.wrap (a.tmod 4294967296) = a % 4294967296 := by rw [Int.tmod_eq_emod_of_nonneg ha.1, swrap (by omega) (by omega)]
    have e2 : IntKind.i64.wrap (IntKind.u64.wrap (a.tdiv 4294967296)) = a / 4294967296 := by rw [Int.tdiv_eq_ediv_of_nonneg ha.1, wu64e, wi64e]; omega
    have e3 : IntKind.i64.wrap (p / 4294967296 - 1) = p / 4294967296 - 1 := swrap (by omega) (by omega)
    rw [cf40, e1, e2, e3]
    have hf : 0 ≤ a % 4294967296 ∧ a % 4294967296 < 4294967296 := by omega
    have hlow : 0 ≤ a / 4294967296 ∧ a / 4294967296 < 4294967296 := by omega
    generalize a % 4294967296 = f at *
    generalize a / 4294967296 = low at *
    have hn : -9223372036854775808 ≤ nearZ p low ∧ nearZ p low ≤ 9223372036854775807 := by
      unfold nearZ
      simp only
      repeat' split
      all_goals omega
    rw [chk_t ⟨hp, hlow, rfl, rfl⟩]
    unfold nsZ upI
    simp (disch := omega) only [numW_digits, sgn_self, nb4, lb4, lb4', nb232, nb30, ble_self, Bool.and_self, condT, hold_id, if_neg]
    generalize -(-(f * 1000000000) / 4294967296) = x
    by_cases h : 999999999 < x
    · rw [if_pos h, dec_t h, condT]
    · rw [if_neg h, dec_f h, condF]
  · cases hF

/-! the program's -/
def F42 : FSpec := fun args h k => match args, h with
  | [.int .i64 s, .int .i64 n], [] => bif decide (0 ≤ n) && decide (n < 1000000000) then k (.tuple ⟨[w64 (s % 4294967296 * 4294967296 + n * 4294967296 / 1000000000), w63 0]⟩) [] else k (.tuple ⟨[w64 0, w63 2]⟩) []
  | _, _ => none
--CF cf42 (s n : Int) :: fnK Try.prog (mkS []) noL Try.f42 [w63 s, w63 n] []
theorem cf42 (s n : Int) : fnK Try.prog (mkS []) noL Try.f42 [w63 s, w63 n] [] =
     (bif decide (n < 0) then some (Res.ret (Value.tuple (Array.mk [Value.int IntKind.u64 0, Value.int IntKind.i64 2])) []) else bif decide (n ≥ 1000000000) then some (Res.ret (Value.tuple (Array.mk
     [Value.int IntKind.u64 0, Value.int IntKind.i64 2])) []) else some (Res.ret (Value.tuple (Array.mk [Value.int IntKind.u64 (bits BinOp.or IntKind.u64 (IntKind.u64.wrap (IntKind.u64.wrap
     (IntKind.u32.wrap s) * 4294967296)) (IntKind.u64.wrap ((IntKind.u64.wrap (IntKind.u64.wrap n * 4294967296)).tdiv 1000000000))), Value.int IntKind.i64 0])) [])) := by kernel_rfl
--CFEND
def shortZ (n : Int) : Int := if n ≤ 0 then 0 else if -(-(n * 65536) / 1000000000) > 4294967295 then 4294967295 else -(-(n * 65536) / 1000000000)
def F43 : FSpec := fun args h k => match args, h with
  | [.int .i64 n], [] => k (.int .u32 (shortZ n)) []
  | _, _ => none
def S43 : Spec := mkS [(19, false, F19), (21, false, F21)]
theorem S43_ok : SpecOK Try.prog S43 := mkS_cons ok19 (mkS_cons ok21 (mkS_nil _))
--CF cf43 (n : Int) :: fnK Try.prog S43 noL Try.f43 [w63 n] []
theorem cf43 (n : Int) : fnK Try.prog S43 noL Try.f43 [w63 n] [] =
     (bif decide (n ≤ 0) then some (Res.ret (Value.int IntKind.u32 0) []) else some (Res.ret (Value.int IntKind.u32 (IntKind.u32.wrap (if 4294967295 < upI n 65536 1000000000 then 4294967295 else upI n
     65536 1000000000))) [])) := by kernel_rfl
--CFEND
--CF cf44 (n : Int) :: fnK Try.prog S43 noL Try.f44 [.int .u32 n] []
theorem cf44 (n : Int) : fnK Try.prog S43 noL Try.f44 [.int .u32 n] [] =
     (some (Res.ret (Value.int IntKind.i64 (downI (IntKind.i64.wrap n) 1000000000 65536)) [])) := by kernel_rfl
--CFEND
def F44 : FSpec := fun args h k => match args, h with
  | [.int .u32 n], [] => k (w63 (n * 1000000000 / 65536)) []
  | _, _ => none
--CF cf46 (n : Int) :: fnK Try.prog S43 noL Try.f46 [w63 n] []
theorem cf46 (n : Int) : fnK Try.prog S43 noL Try.f46 [w63 n] [] =
     (some (Res.ret (Value.int IntKind.i64 (n.fdiv 4294967296)) [])) := by kernel_rfl
--CFEND
def F46 : FSpec := fun args h k => match args, h with
  | [.int .i64 n], [] => k (w63 (n / 4294967296)) []
  | _, _ => none
/-! the document's -/
noncomputable def S45 : Spec := mkS [(27, false, F27), (28, false, F28), (29, false, F29), (32, false, F32), (76, false, F76), (86, false, F86), (98, false, F31), (99, false, F99)]
theorem S45_ok : SpecOK Try.prog S45 := mkS_cons ok27 (mkS_cons ok28 (mkS_cons ok29 (mkS_cons ok32 (mkS_cons ok76 (mkS_cons ok86 (mkS_cons ok98 (mkS_cons ok99 (mkS_nil _))))))))
--CF cf45 (s n : Int) :: fnK Try.prog S45 noL Try.f45 [w63 s, w63 n] []
theorem cf45 (s n : Int) : fnK Try.prog S45 noL Try.f45 [w63 s, w63 n] [] =
     (bif decide (n < 0) then some (Res.ret (Value.tuple (Array.mk [Value.int IntKind.u64 0, Value.int IntKind.i64 2])) []) else bif decide (n > 999999999) then some (Res.ret (Value.tuple (Array.mk
     [Value.int IntKind.u64 0, Value.int IntKind.i64 2])) []) else bif normB (digits n.natAbs).length (digits n.natAbs) && normB 2 (digits 4294967296) && (digits n.natAbs).length.ble (digits
     n.natAbs).length && true && (digits n.natAbs).length.ble (OfNat.ofNat 400000) && true then bif normB (digits (sgn (decide (n < 0)) (numW (digits n.natAbs).length (digits n.natAbs)) *
     4294967296).natAbs).length (digits (sgn (decide (n < 0)) (numW (digits n.natAbs).length (digits n.natAbs)) * 4294967296).natAbs) && normB 1 (digits 1000000000) && (digits (sgn (decide (n < 0)) (numW
     (digits n.natAbs).length (digits n.natAbs)) * 4294967296).natAbs).length.ble (digits (sgn (decide (n < 0)) (numW (digits n.natAbs).length (digits n.natAbs)) * 4294967296).natAbs).length && true &&
     (digits (sgn (decide (n < 0)) (numW (digits n.natAbs).length (digits n.natAbs)) * 4294967296).natAbs).length.ble (OfNat.ofNat 399999) && true && true && true then bif normB (digits (sgn (decide (sgn
     (decide (n < 0)) (numW (digits n.natAbs).length (digits n.natAbs)) * 4294967296 < 0)) (numW (digits (sgn (decide (n < 0)) (numW (digits n.natAbs).length (digits n.natAbs)) * 4294967296).natAbs).length
     (digits (sgn (decide (n < 0)) (numW (digits n.natAbs).length (digits n.natAbs)) * 4294967296).natAbs)) / 1000000000).natAbs).length (digits (sgn (decide (sgn (decide (n < 0)) (numW (digits
     n.natAbs).length (digits n.natAbs)) * 4294967296 < 0)) (numW (digits (sgn (decide (n < 0)) (numW (digits n.natAbs).length (digits n.natAbs)) * 4294967296).natAbs).length (digits (sgn (decide (n < 0))
     (numW (digits n.natAbs).length (digits n.natAbs)) * 4294967296).natAbs)) / 1000000000).natAbs) && (digits (sgn (decide (sgn (decide (n < 0)) (numW (digits n.natAbs).length (digits n.natAbs)) *
     4294967296 < 0)) (numW (digits (sgn (decide (n < 0)) (numW (digits n.natAbs).length (digits n.natAbs)) * 4294967296).natAbs).length (digits (sgn (decide (n < 0)) (numW (digits n.natAbs).length (digits
     n.natAbs)) * 4294967296).natAbs)) / 1000000000).natAbs).length.ble (digits (sgn (decide (sgn (decide (n < 0)) (numW (digits n.natAbs).length (digits n.natAbs)) * 4294967296 < 0)) (numW (digits (sgn
     (decide (n < 0)) (numW (digits n.natAbs).length (digits n.natAbs)) * 4294967296).natAbs).length (digits (sgn (decide (n < 0)) (numW (digits n.natAbs).length (digits n.natAbs)) * 4294967296).natAbs)) /
     1000000000).natAbs).length then some (Res.ret (Value.tuple (Array.mk [Value.int IntKind.u64 (IntKind.u64.wrap (IntKind.u64.wrap (IntKind.u64.wrap (s % 4294967296) * 4294967296) + IntKind.u64.wrap
     (hold (sgn (decide (sgn (decide (sgn (decide (n < 0)) (numW (digits n.natAbs).length (digits n.natAbs)) * 4294967296 < 0)) (numW (digits (sgn (decide (n < 0)) (numW (digits n.natAbs).length (digits
     n.natAbs)) * 4294967296).natAbs).length (digits (sgn (decide (n < 0)) (numW (digits n.natAbs).length (digits n.natAbs)) * 4294967296).natAbs)) / 1000000000 < 0)) (numW (digits (sgn (decide (sgn
     (decide (n < 0)) (numW (digits n.natAbs).length (digits n.natAbs)) * 4294967296 < 0)) (numW (digits (sgn (decide (n < 0)) (numW (digits n.natAbs).length (digits n.natAbs)) * 4294967296).natAbs).length
     (digits (sgn (decide (n < 0)) (numW (digits n.natAbs).length (digits n.natAbs)) * 4294967296).natAbs)) / 1000000000).natAbs).length (digits (sgn (decide (sgn (decide (n < 0)) (numW (digits
     n.natAbs).length (digits n.natAbs)) * 4294967296 < 0)) (numW (digits (sgn (decide (n < 0)) (numW (digits n.natAbs).length (digits n.natAbs)) * 4294967296).natAbs).length (digits (sgn (decide (n < 0))
     (numW (digits n.natAbs).length (digits n.natAbs)) * 4294967296).natAbs)) / 1000000000).natAbs)))))), Value.int IntKind.i64 0])) []) else none else none else none) := by kernel_rfl
--CFEND
--CF cf47 (n : Int) :: fnK Try.prog S45 noL Try.f47 [w63 n] []
theorem cf47 (n : Int) : fnK Try.prog S45 noL Try.f47 [w63 n] [] =
     (some (Res.ret (Value.int IntKind.i64 (n / 4294967296)) [])) := by kernel_rfl
--CFEND
--CF cf48 (n : Int) :: fnK Try.prog S45 noL Try.f48 [w63 n] []
theorem cf48 (n : Int) : fnK Try.prog S45 noL Try.f48 [w63 n] [] =
     (bif decide (n ≤ 0) then some (Res.ret (Value.int IntKind.u32 0) []) else bif normB (digits n.natAbs).length (digits n.natAbs) && normB 1 (digits 65536) && (digits n.natAbs).length.ble (digits
     n.natAbs).length && true && (digits n.natAbs).length.ble (OfNat.ofNat 400000) && true then bif normB (digits (sgn (decide (n < 0)) (numW (digits n.natAbs).length (digits n.natAbs)) *
     65536).natAbs).length (digits (sgn (decide (n < 0)) (numW (digits n.natAbs).length (digits n.natAbs)) * 65536).natAbs) && normB 1 (digits 1000000000) && (digits (sgn (decide (n < 0)) (numW (digits
     n.natAbs).length (digits n.natAbs)) * 65536).natAbs).length.ble (digits (sgn (decide (n < 0)) (numW (digits n.natAbs).length (digits n.natAbs)) * 65536).natAbs).length && true && (digits (sgn (decide
     (n < 0)) (numW (digits n.natAbs).length (digits n.natAbs)) * 65536).natAbs).length.ble (OfNat.ofNat 399999) && true && true && true then bif normB (digits (-(-sgn (decide (sgn (decide (n < 0)) (numW
     (digits n.natAbs).length (digits n.natAbs)) * 65536 < 0)) (numW (digits (sgn (decide (n < 0)) (numW (digits n.natAbs).length (digits n.natAbs)) * 65536).natAbs).length (digits (sgn (decide (n < 0))
     (numW (digits n.natAbs).length (digits n.natAbs)) * 65536).natAbs)) / 1000000000)).natAbs).length (digits (-(-sgn (decide (sgn (decide (n < 0)) (numW (digits n.natAbs).length (digits n.natAbs)) *
     65536 < 0)) (numW (digits (sgn (decide (n < 0)) (numW (digits n.natAbs).length (digits n.natAbs)) * 65536).natAbs).length (digits (sgn (decide (n < 0)) (numW (digits n.natAbs).length (digits
     n.natAbs)) * 65536).natAbs)) / 1000000000)).natAbs) && normB 1 (digits 4294967295) && (digits (-(-sgn (decide (sgn (decide (n < 0)) (numW (digits n.natAbs).length (digits n.natAbs)) * 65536 < 0))
     (numW (digits (sgn (decide (n < 0)) (numW (digits n.natAbs).length (digits n.natAbs)) * 65536).natAbs).length (digits (sgn (decide (n < 0)) (numW (digits n.natAbs).length (digits n.natAbs)) *
     65536).natAbs)) / 1000000000)).natAbs).length.ble (digits (-(-sgn (decide (sgn (decide (n < 0)) (numW (digits n.natAbs).length (digits n.natAbs)) * 65536 < 0)) (numW (digits (sgn (decide (n < 0))
     (numW (digits n.natAbs).length (digits n.natAbs)) * 65536).natAbs).length (digits (sgn (decide (n < 0)) (numW (digits n.natAbs).length (digits n.natAbs)) * 65536).natAbs)) /
     1000000000)).natAbs).length && true && chk (decide (-(-sgn (decide (sgn (decide (n < 0)) (numW (digits n.natAbs).length (digits n.natAbs)) * sgn (decide (65536 < 0)) (numW (digits (Int.natAbs
     65536)).length (digits (Int.natAbs 65536))) < 0)) (numW (digits (sgn (decide (n < 0)) (numW (digits n.natAbs).length (digits n.natAbs)) * sgn (decide (65536 < 0)) (numW (digits (Int.natAbs
     65536)).length (digits (Int.natAbs 65536)))).natAbs).length (digits (sgn (decide (n < 0)) (numW (digits n.natAbs).length (digits n.natAbs)) * sgn (decide (65536 < 0)) (numW (digits (Int.natAbs
     65536)).length (digits (Int.natAbs 65536)))).natAbs)) / (↑(numW (digits (Int.natAbs 1000000000)).length (digits (Int.natAbs 1000000000))) : Int)) < 0) = true → 0 < numW (digits (-(-sgn (decide (sgn
     (decide (n < 0)) (numW (digits n.natAbs).length (digits n.natAbs)) * sgn (decide (65536 < 0)) (numW (digits (Int.natAbs 65536)).length (digits (Int.natAbs 65536))) < 0)) (numW (digits (sgn (decide (n
     < 0)) (numW (digits n.natAbs).length (digits n.natAbs)) * sgn (decide (65536 < 0)) (numW (digits (Int.natAbs 65536)).length (digits (Int.natAbs 65536)))).natAbs).length (digits (sgn (decide (n < 0))
     (numW (digits n.natAbs).length (digits n.natAbs)) * sgn (decide (65536 < 0)) (numW (digits (Int.natAbs 65536)).length (digits (Int.natAbs 65536)))).natAbs)) / (↑(numW (digits (Int.natAbs
     1000000000)).length (digits (Int.natAbs 1000000000))) : Int))).natAbs).length (digits (-(-sgn (decide (sgn (decide (n < 0)) (numW (digits n.natAbs).length (digits n.natAbs)) * sgn (decide (65536 < 0))
     (numW (digits (Int.natAbs 65536)).length (digits (Int.natAbs 65536))) < 0)) (numW (digits (sgn (decide (n < 0)) (numW (digits n.natAbs).length (digits n.natAbs)) * sgn (decide (65536 < 0)) (numW
     (digits (Int.natAbs 65536)).length (digits (Int.natAbs 65536)))).natAbs).length (digits (sgn (decide (n < 0)) (numW (digits n.natAbs).length (digits n.natAbs)) * sgn (decide (65536 < 0)) (numW (digits
     (Int.natAbs 65536)).length (digits (Int.natAbs 65536)))).natAbs)) / (↑(numW (digits (Int.natAbs 1000000000)).length (digits (Int.natAbs 1000000000))) : Int))).natAbs)) && chk (decide (4294967295 < 0)
     = true → 0 < numW (digits (Int.natAbs 4294967295)).length (digits (Int.natAbs 4294967295))) then bif decide (cmpZ (sgn (decide (-(-sgn (decide (sgn (decide (n < 0)) (numW (digits n.natAbs).length
     (digits n.natAbs)) * 65536 < 0)) (numW (digits (sgn (decide (n < 0)) (numW (digits n.natAbs).length (digits n.natAbs)) * 65536).natAbs).length (digits (sgn (decide (n < 0)) (numW (digits
     n.natAbs).length (digits n.natAbs)) * 65536).natAbs)) / 1000000000) < 0)) (numW (digits (-(-sgn (decide (sgn (decide (n < 0)) (numW (digits n.natAbs).length (digits n.natAbs)) * 65536 < 0)) (numW
     (digits (sgn (decide (n < 0)) (numW (digits n.natAbs).length (digits n.natAbs)) * 65536).natAbs).length (digits (sgn (decide (n < 0)) (numW (digits n.natAbs).length (digits n.natAbs)) *
     65536).natAbs)) / 1000000000)).natAbs).length (digits (-(-sgn (decide (sgn (decide (n < 0)) (numW (digits n.natAbs).length (digits n.natAbs)) * 65536 < 0)) (numW (digits (sgn (decide (n < 0)) (numW
     (digits n.natAbs).length (digits n.natAbs)) * 65536).natAbs).length (digits (sgn (decide (n < 0)) (numW (digits n.natAbs).length (digits n.natAbs)) * 65536).natAbs)) / 1000000000)).natAbs)))
     4294967295 > 0) then some (Res.ret (Value.int IntKind.u32 4294967295) []) else bif normB (digits (-(-sgn (decide (sgn (decide (n < 0)) (numW (digits n.natAbs).length (digits n.natAbs)) * 65536 < 0))
     (numW (digits (sgn (decide (n < 0)) (numW (digits n.natAbs).length (digits n.natAbs)) * 65536).natAbs).length (digits (sgn (decide (n < 0)) (numW (digits n.natAbs).length (digits n.natAbs)) *
     65536).natAbs)) / 1000000000)).natAbs).length (digits (-(-sgn (decide (sgn (decide (n < 0)) (numW (digits n.natAbs).length (digits n.natAbs)) * 65536 < 0)) (numW (digits (sgn (decide (n < 0)) (numW
     (digits n.natAbs).length (digits n.natAbs)) * 65536).natAbs).length (digits (sgn (decide (n < 0)) (numW (digits n.natAbs).length (digits n.natAbs)) * 65536).natAbs)) / 1000000000)).natAbs) && (digits
     (-(-sgn (decide (sgn (decide (n < 0)) (numW (digits n.natAbs).length (digits n.natAbs)) * 65536 < 0)) (numW (digits (sgn (decide (n < 0)) (numW (digits n.natAbs).length (digits n.natAbs)) *
     65536).natAbs).length (digits (sgn (decide (n < 0)) (numW (digits n.natAbs).length (digits n.natAbs)) * 65536).natAbs)) / 1000000000)).natAbs).length.ble (digits (-(-sgn (decide (sgn (decide (n < 0))
     (numW (digits n.natAbs).length (digits n.natAbs)) * 65536 < 0)) (numW (digits (sgn (decide (n < 0)) (numW (digits n.natAbs).length (digits n.natAbs)) * 65536).natAbs).length (digits (sgn (decide (n <
     0)) (numW (digits n.natAbs).length (digits n.natAbs)) * 65536).natAbs)) / 1000000000)).natAbs).length then some (Res.ret (Value.int IntKind.u32 (IntKind.u32.wrap (hold (sgn (decide (-(-sgn (decide
     (sgn (decide (n < 0)) (numW (digits n.natAbs).length (digits n.natAbs)) * 65536 < 0)) (numW (digits (sgn (decide (n < 0)) (numW (digits n.natAbs).length (digits n.natAbs)) * 65536).natAbs).length
     (digits (sgn (decide (n < 0)) (numW (digits n.natAbs).length (digits n.natAbs)) * 65536).natAbs)) / 1000000000) < 0)) (numW (digits (-(-sgn (decide (sgn (decide (n < 0)) (numW (digits n.natAbs).length
     (digits n.natAbs)) * 65536 < 0)) (numW (digits (sgn (decide (n < 0)) (numW (digits n.natAbs).length (digits n.natAbs)) * 65536).natAbs).length (digits (sgn (decide (n < 0)) (numW (digits
     n.natAbs).length (digits n.natAbs)) * 65536).natAbs)) / 1000000000)).natAbs).length (digits (-(-sgn (decide (sgn (decide (n < 0)) (numW (digits n.natAbs).length (digits n.natAbs)) * 65536 < 0)) (numW
     (digits (sgn (decide (n < 0)) (numW (digits n.natAbs).length (digits n.natAbs)) * 65536).natAbs).length (digits (sgn (decide (n < 0)) (numW (digits n.natAbs).length (digits n.natAbs)) *
     65536).natAbs)) / 1000000000)).natAbs)))))) []) else none else none else none else none) := by kernel_rfl
--CFEND
--CF cf49 (n : Int) :: fnK Try.prog S45 noL Try.f49 [.int .u32 n] []
theorem cf49 (n : Int) : fnK Try.prog S45 noL Try.f49 [.int .u32 n] [] =
     (bif normB (digits (IntKind.i64.wrap n).natAbs).length (digits (IntKind.i64.wrap n).natAbs) && normB 1 (digits 1000000000) && (digits (IntKind.i64.wrap n).natAbs).length.ble (digits (IntKind.i64.wrap
     n).natAbs).length && true && (digits (IntKind.i64.wrap n).natAbs).length.ble (OfNat.ofNat 400000) && true then bif normB (digits (sgn (decide (IntKind.i64.wrap n < 0)) (numW (digits (IntKind.i64.wrap
     n).natAbs).length (digits (IntKind.i64.wrap n).natAbs)) * 1000000000).natAbs).length (digits (sgn (decide (IntKind.i64.wrap n < 0)) (numW (digits (IntKind.i64.wrap n).natAbs).length (digits
     (IntKind.i64.wrap n).natAbs)) * 1000000000).natAbs) && normB 1 (digits 65536) && (digits (sgn (decide (IntKind.i64.wrap n < 0)) (numW (digits (IntKind.i64.wrap n).natAbs).length (digits
     (IntKind.i64.wrap n).natAbs)) * 1000000000).natAbs).length.ble (digits (sgn (decide (IntKind.i64.wrap n < 0)) (numW (digits (IntKind.i64.wrap n).natAbs).length (digits (IntKind.i64.wrap n).natAbs)) *
     1000000000).natAbs).length && true && (digits (sgn (decide (IntKind.i64.wrap n < 0)) (numW (digits (IntKind.i64.wrap n).natAbs).length (digits (IntKind.i64.wrap n).natAbs)) *
     1000000000).natAbs).length.ble (OfNat.ofNat 399999) && true && true && true then bif normB (digits (sgn (decide (sgn (decide (IntKind.i64.wrap n < 0)) (numW (digits (IntKind.i64.wrap n).natAbs).length
     (digits (IntKind.i64.wrap n).natAbs)) * 1000000000 < 0)) (numW (digits (sgn (decide (IntKind.i64.wrap n < 0)) (numW (digits (IntKind.i64.wrap n).natAbs).length (digits (IntKind.i64.wrap n).natAbs)) *
     1000000000).natAbs).length (digits (sgn (decide (IntKind.i64.wrap n < 0)) (numW (digits (IntKind.i64.wrap n).natAbs).length (digits (IntKind.i64.wrap n).natAbs)) * 1000000000).natAbs)) /
     65536).natAbs).length (digits (sgn (decide (sgn (decide (IntKind.i64.wrap n < 0)) (numW (digits (IntKind.i64.wrap n).natAbs).length (digits (IntKind.i64.wrap n).natAbs)) * 1000000000 < 0)) (numW
     (digits (sgn (decide (IntKind.i64.wrap n < 0)) (numW (digits (IntKind.i64.wrap n).natAbs).length (digits (IntKind.i64.wrap n).natAbs)) * 1000000000).natAbs).length (digits (sgn (decide
     (IntKind.i64.wrap n < 0)) (numW (digits (IntKind.i64.wrap n).natAbs).length (digits (IntKind.i64.wrap n).natAbs)) * 1000000000).natAbs)) / 65536).natAbs) && (digits (sgn (decide (sgn (decide
     (IntKind.i64.wrap n < 0)) (numW (digits (IntKind.i64.wrap n).natAbs).length (digits (IntKind.i64.wrap n).natAbs)) * 1000000000 < 0)) (numW (digits (sgn (decide (IntKind.i64.wrap n < 0)) (numW (digits
     (IntKind.i64.wrap n).natAbs).length (digits (IntKind.i64.wrap n).natAbs)) * 1000000000).natAbs).length (digits (sgn (decide (IntKind.i64.wrap n < 0)) (numW (digits (IntKind.i64.wrap n).natAbs).length
     (digits (IntKind.i64.wrap n).natAbs)) * 1000000000).natAbs)) / 65536).natAbs).length.ble (digits (sgn (decide (sgn (decide (IntKind.i64.wrap n < 0)) (numW (digits (IntKind.i64.wrap n).natAbs).length
     (digits (IntKind.i64.wrap n).natAbs)) * 1000000000 < 0)) (numW (digits (sgn (decide (IntKind.i64.wrap n < 0)) (numW (digits (IntKind.i64.wrap n).natAbs).length (digits (IntKind.i64.wrap n).natAbs)) *
     1000000000).natAbs).length (digits (sgn (decide (IntKind.i64.wrap n < 0)) (numW (digits (IntKind.i64.wrap n).natAbs).length (digits (IntKind.i64.wrap n).natAbs)) * 1000000000).natAbs)) /
     65536).natAbs).length then some (Res.ret (Value.int IntKind.i64 (hold (sgn (decide (sgn (decide (sgn (decide (IntKind.i64.wrap n < 0)) (numW (digits (IntKind.i64.wrap n).natAbs).length (digits
     (IntKind.i64.wrap n).natAbs)) * 1000000000 < 0)) (numW (digits (sgn (decide (IntKind.i64.wrap n < 0)) (numW (digits (IntKind.i64.wrap n).natAbs).length (digits (IntKind.i64.wrap n).natAbs)) *
     1000000000).natAbs).length (digits (sgn (decide (IntKind.i64.wrap n < 0)) (numW (digits (IntKind.i64.wrap n).natAbs).length (digits (IntKind.i64.wrap n).natAbs)) * 1000000000).natAbs)) / 65536 < 0))
     (numW (digits (sgn (decide (sgn (decide (IntKind.i64.wrap n < 0)) (numW (digits (IntKind.i64.wrap n).natAbs).length (digits (IntKind.i64.wrap n).natAbs)) * 1000000000 < 0)) (numW (digits (sgn (decide
     (IntKind.i64.wrap n < 0)) (numW (digits (IntKind.i64.wrap n).natAbs).length (digits (IntKind.i64.wrap n).natAbs)) * 1000000000).natAbs).length (digits (sgn (decide (IntKind.i64.wrap n < 0)) (numW
     (digits (IntKind.i64.wrap n).natAbs).length (digits (IntKind.i64.wrap n).natAbs)) * 1000000000).natAbs)) / 65536).natAbs).length (digits (sgn (decide (sgn (decide (IntKind.i64.wrap n < 0)) (numW
     (digits (IntKind.i64.wrap n).natAbs).length (digits (IntKind.i64.wrap n).natAbs)) * 1000000000 < 0)) (numW (digits (sgn (decide (IntKind.i64.wrap n < 0)) (numW (digits (IntKind.i64.wrap
     n).natAbs).length (digits (IntKind.i64.wrap n).natAbs)) * 1000000000).natAbs).length (digits (sgn (decide (IntKind.i64.wrap n < 0)) (numW (digits (IntKind.i64.wrap n).natAbs).length (digits
     (IntKind.i64.wrap n).natAbs)) * 1000000000).natAbs)) / 65536).natAbs))))) []) else none else none else none) := by kernel_rfl
--CFEND
noncomputable def S7 : Spec := mkS [(39, false, F39), (40, false, F39), (41, false, F22)]
--CF cf7 (a p : Int) :: fnK Try.prog S7 noL Try.f7 [w64 a, w63 p] []
theorem cf7 (a p : Int) : fnK Try.prog S7 noL Try.f7 [w64 a, w63 p] [] =
     (bif nearZ p (a / 4294967296) == nearZ p (a / 4294967296) then bif nsZ (a % 4294967296) == nsZ (a % 4294967296) then some (Res.ret (Value.bool true) []) else some (Res.ret (Value.bool false) []) else
     some (Res.ret (Value.bool false) [])) := by kernel_rfl
--CFEND
end Go.Proofs.Ytfgehfnlkakioaa.VC

/- stamp, and the document's answer for it: proved; closed forms of the laws. -/
namespace Go.Proofs.Ytfgehfnlkakioaa.VC
open Go Go.Proofs

theorem u32r {args : List Value} {h : Heap} (hr : RealA args h) (i : Nat) {x : Int} (ha : args[i]? = some (.int .u32 x)) : 0 ≤ x ∧ x ≤ 4294967295 := hr.int ha
theorem ok42 : EntryOK Try.prog 42 F42 := by
  refine EntryOK.of_fn (mkS_nil _) follows_ok Try.func42 (by kernel_rfl) (by kernel_rfl) ?_
  intro args h k out hF
  unfold F42 at hF
  split at hF
  · rename_i s n
    cases hb : (decide (0 ≤ n) && decide (n < 1000000000)) with
    | false =>
      rw [hb, condF] at hF
      refine ⟨_, _, hF, fun _ => ⟨noL, noL_ok, ?_⟩⟩
      rw [cf42]
      simp only [Bool.and_eq_false_iff, decide_eq_false_iff_not] at hb
      exact dc (fun _ => rfl) (fun c1 => dc (fun _ => rfl) (fun c2 => by omega))
    | true =>
      rw [hb, condT] at hF
      refine ⟨_, _, hF, fun _ => ⟨noL, noL_ok, ?_⟩⟩
      simp only [Bool.and_eq_true, decide_eq_true_eq] at hb
      obtain ⟨N, rfl⟩ := Int.eq_ofNat_of_zero_le hb.1
      rw [cf42, dec_f (by omega), dec_f (by omega), condF, condF, wu32e]
      obtain ⟨S, hS⟩ := Int.eq_ofNat_of_zero_le (Int.emod_nonneg s (show (4294967296 : Int) ≠ 0 by decide))
      have hS2 : (S : Int) < 4294967296 := by rw [← hS]; exact Int.emod_lt_of_pos _ (by decide)
      rw [hS, wrapN S (by omega), show (S : Int) * 4294967296 = ((S * 4294967296 : Nat) : Int) by omega, wrapN _ (by omega), wrapN N (by omega), show (N : Int) * 4294967296 = ((N * 4294967296 : Nat) : Int) by omega, wrapN _ (by omega),
        Int.tdiv_eq_ediv_of_nonneg (by omega), show ((N * 4294967296 : Nat) : Int) / 1000000000 = ((N * 4294967296 / 1000000000 : Nat) : Int) by omega, wrapN _ (by omega), orN _ _ (by omega) (by omega), Int.natCast_add]
  · cases hF

theorem up_pos {n : Int} (h : 0 < n) : 0 < -(-n / 1000000000) := by omega
theorem ok43 : EntryOK Try.prog 43 F43 := by
  refine EntryOK.of_fn S43_ok follows_ok Try.func43 (by kernel_rfl) (by kernel_rfl) ?_
  intro args h k out hF
  unfold F43 at hF
  split at hF
  · rename_i n
    refine ⟨_, _, hF, fun real => ⟨noL, noL_ok, ?_⟩⟩
    have hn := i64r real 0 rfl
    rw [cf43]
    unfold shortZ
    refine dc (fun c => ?_) (fun c => ?_)
    · rw [if_pos c]
    · rw [if_neg c]
      have e : upI n 65536 1000000000 = -(-(n * 65536) / 1000000000) := by unfold upI; rw [if_neg (by decide), hold_id (by omega)]
      rw [e]
      by_cases h2 : 4294967295 < -(-(n * 65536) / 1000000000)
      · rw [if_pos h2, wu32e]; rfl
      · rw [if_neg h2, wu32e, show -(-(n * 65536) / 1000000000) % 4294967296 = -(-(n * 65536) / 1000000000) by omega]
  · cases hF
theorem ok44 : EntryOK Try.prog 44 F44 := by
  refine EntryOK.of_fn S43_ok follows_ok Try.func44 (by kernel_rfl) (by kernel_rfl) ?_
  intro args h k out hF
  unfold F44 at hF
  split at hF
  · rename_i n
    refine ⟨_, _, hF, fun real => ⟨noL, noL_ok, ?_⟩⟩
    have hn := u32r real 0 rfl
    rw [cf44, swrap (by omega) (by omega)]
    unfold downI
    rw [if_neg (by decide), hold_id (by omega)]
  · cases hF
theorem ok46 : EntryOK Try.prog 46 F46 := by
  refine EntryOK.of_fn S43_ok follows_ok Try.func46 (by kernel_rfl) (by kernel_rfl) ?_
  intro args h k out hF
  unfold F46 at hF
  split at hF
  · exact ⟨_, _, hF, fun _ => ⟨noL, noL_ok, by rw [cf46, fd32]⟩⟩
  · cases hF
theorem ok47 : EntryOK Try.prog 47 F46 := by
  refine EntryOK.of_fn S45_ok follows_ok Try.func47 (by kernel_rfl) (by kernel_rfl) ?_
  intro args h k out hF
  unfold F46 at hF
  split at hF
  · exact ⟨_, _, hF, fun _ => ⟨noL, noL_ok, by rw [cf47]⟩⟩
  · cases hF
theorem nb16 : normB 1 (digits 65536) = true := normB_digits (v := 65536) (by decide)
theorem nb32m : normB 1 (digits 4294967295) = true := normB_digits (v := 4294967295) (by decide)
theorem ok45 : EntryOK Try.prog 45 F42 := by
  refine EntryOK.of_fn S45_ok follows_ok Try.func45 (by kernel_rfl) (by kernel_rfl) ?_
  intro args h k out hF
  unfold F42 at hF
  split at hF
  · rename_i s n
    cases hb : (decide (0 ≤ n) && decide (n < 1000000000)) with
    | false =>
      rw [hb, condF] at hF
      refine ⟨_, _, hF, fun _ => ⟨noL, noL_ok, ?_⟩⟩
      rw [cf45]
      simp only [Bool.and_eq_false_iff, decide_eq_false_iff_not] at hb
      exact dc (fun _ => rfl) (fun c1 => dc (fun _ => rfl) (fun c2 => by omega))
    | true =>
      rw [hb, condT] at hF
      refine ⟨_, _, hF, fun _ => ⟨noL, noL_ok, ?_⟩⟩
      simp only [Bool.and_eq_true, decide_eq_true_eq] at hb
      rw [cf45, dec_f (by omega), dec_f (by omega), condF, condF]
      have hs : sgn false n.natAbs = n := by rw [sgnF]; omega
      simp (disch := omega) only [numW_digits, hs, sgn_self, nb4, lb4, lb4', nb232, nb30, ble_self, Bool.and_self, condT, hold_id, wu64e]
      refine retEq ?_ rfl
      congr 4
      omega
  · cases hF
theorem ok48 : EntryOK Try.prog 48 F43 := by
  refine EntryOK.of_fn S45_ok follows_ok Try.func48 (by kernel_rfl) (by kernel_rfl) ?_
  intro args h k out hF
  unfold F43 at hF
  split at hF
  · rename_i n
    refine ⟨_, _, hF, fun real => ⟨noL, noL_ok, ?_⟩⟩
    have hn := i64r real 0 rfl
    rw [cf48]
    unfold shortZ
    refine dc (fun c => ?_) (fun c => ?_)
    · rw [if_pos c]
    · rw [if_neg c]
      simp (disch := omega) only [numW_digits, sgn_self, nb4, lb4, lb4', nb16, nb30, nb32m, ble_self, Bool.and_self, condT, chkz, cmp_gt]
      rw [chk_t (fun h => absurd h (by decide))]
      simp only [Bool.and_self, condT]
      refine dc (fun c2 => ?_) (fun c2 => ?_)
      · rw [if_pos c2]
      · rw [if_neg c2, hold_id (by omega), wu32e, show -(-(n * 65536) / 1000000000) % 4294967296 = -(-(n * 65536) / 1000000000) by omega]
  · cases hF
theorem ok49 : EntryOK Try.prog 49 F44 := by
  refine EntryOK.of_fn S45_ok follows_ok Try.func49 (by kernel_rfl) (by kernel_rfl) ?_
  intro args h k out hF
  unfold F44 at hF
  split at hF
  · rename_i n
    refine ⟨_, _, hF, fun real => ⟨noL, noL_ok, ?_⟩⟩
    have hn := u32r real 0 rfl
    rw [cf49, swrap (by omega) (by omega)]
    simp (disch := omega) only [numW_digits, sgn_self, nb4, lb4, lb4', nb16, nb30, ble_self, Bool.and_self, condT, hold_id]
  · cases hF

def S41 : Spec := mkS [(39, false, F39), (42, false, F42), (43, false, F43)]
theorem S41_ok : SpecOK Try.prog S41 := mkS_cons ok39 (mkS_cons ok42 (mkS_cons ok43 (mkS_nil _)))
--CF cf41 . :: fnK Try.prog S41 noL Try.f41 [] []
theorem cf41  : fnK Try.prog S41 noL Try.f41 [] [] =
     (some (Res.ret (Value.bool true) [])) := by kernel_rfl
--CFEND
theorem ok41 : EntryOK Try.prog 41 F22 := by
  refine EntryOK.of_fn S41_ok follows_ok Try.func41 (by kernel_rfl) (by kernel_rfl) ?_
  intro args h k out hF
  unfold F22 at hF
  split at hF
  · exact ⟨_, _, hF, fun _ => ⟨noL, noL_ok, by rw [cf41]⟩⟩
  · cases hF
def S8 : Spec := mkS [(39, false, F39), (41, false, F22), (42, false, F42), (43, false, F43), (44, false, F44)]
theorem S8_ok : SpecOK Try.prog S8 := mkS_cons ok39 (mkS_cons ok41 (mkS_cons ok42 (mkS_cons ok43 (mkS_cons ok44 (mkS_nil _)))))
--CF cf8 (s n o : Int) :: fnK Try.prog S8 noL Try.f8 [w63 s, w63 n, w63 o] []
theorem cf8 (s n o : Int) : fnK Try.prog S8 noL Try.f8 [w63 s, w63 n, w63 o] [] =
     (bif decide (s < -1152921504606846976) then some (Res.ret (Value.bool true) []) else bif decide (s > 1152921504606846976) then some (Res.ret (Value.bool true) []) else bif decide (n < 0) then some
     (Res.ret (Value.bool true) []) else bif decide (n ≥ 1000000000) then some (Res.ret (Value.bool true) []) else bif decide (o ≤ -2147483648) then some (Res.ret (Value.bool true) []) else bif decide (o ≥
     2147483648) then some (Res.ret (Value.bool true) []) else bif decide (0 ≤ n) && decide (n < 1000000000) then bif nearZ (IntKind.i64.wrap (s + o)) ((s % 4294967296 * 4294967296 + n * 4294967296 /
     1000000000) / 4294967296) != s then some (Res.ret (Value.bool false) []) else bif nsZ ((s % 4294967296 * 4294967296 + n * 4294967296 / 1000000000) % 4294967296) != n then some (Res.ret (Value.bool
     false) []) else bif decide (IntKind.i64.wrap (n + 1) < 1000000000) then bif decide (0 ≤ IntKind.i64.wrap (n + 1)) && decide (IntKind.i64.wrap (n + 1) < 1000000000) then bif decide (s % 4294967296 *
     4294967296 + IntKind.i64.wrap (n + 1) * 4294967296 / 1000000000 ≤ s % 4294967296 * 4294967296 + n * 4294967296 / 1000000000) then some (Res.ret (Value.bool false) []) else bif decide (shortZ n *
     1000000000 / 65536 ≥ IntKind.i64.wrap (n - 15259)) then bif decide (IntKind.i64.wrap (shortZ n * 1000000000 / 65536 + 1) ≥ n) then bif shortZ n == 0 then some (Res.ret (Value.bool true) []) else bif
     decide (IntKind.u32.wrap (shortZ n - 1) * 1000000000 / 65536 < n) then some (Res.ret (Value.bool true) []) else some (Res.ret (Value.bool false) []) else some (Res.ret (Value.bool false) []) else some
     (Res.ret (Value.bool false) []) else bif decide (0 ≤ s % 4294967296 * 4294967296 + n * 4294967296 / 1000000000) then some (Res.ret (Value.bool false) []) else bif decide (shortZ n * 1000000000 / 65536
     ≥ IntKind.i64.wrap (n - 15259)) then bif decide (IntKind.i64.wrap (shortZ n * 1000000000 / 65536 + 1) ≥ n) then bif shortZ n == 0 then some (Res.ret (Value.bool true) []) else bif decide
     (IntKind.u32.wrap (shortZ n - 1) * 1000000000 / 65536 < n) then some (Res.ret (Value.bool true) []) else some (Res.ret (Value.bool false) []) else some (Res.ret (Value.bool false) []) else some
     (Res.ret (Value.bool false) []) else bif decide (shortZ n * 1000000000 / 65536 ≥ IntKind.i64.wrap (n - 15259)) then bif decide (IntKind.i64.wrap (shortZ n * 1000000000 / 65536 + 1) ≥ n) then bif
     shortZ n == 0 then some (Res.ret (Value.bool true) []) else bif decide (IntKind.u32.wrap (shortZ n - 1) * 1000000000 / 65536 < n) then some (Res.ret (Value.bool true) []) else some (Res.ret
     (Value.bool false) []) else some (Res.ret (Value.bool false) []) else some (Res.ret (Value.bool false) []) else some (Res.ret (Value.bool false) [])) := by kernel_rfl
--CFEND
def S9 : Spec := mkS [(41, false, F22), (42, false, F42), (43, false, F43), (44, false, F44), (45, false, F42), (46, false, F46), (47, false, F46), (48, false, F43), (49, false, F44)]
theorem S9_ok : SpecOK Try.prog S9 := mkS_cons ok41 (mkS_cons ok42 (mkS_cons ok43 (mkS_cons ok44 (mkS_cons ok45 (mkS_cons ok46 (mkS_cons ok47 (mkS_cons ok48 (mkS_cons ok49 (mkS_nil _)))))))))
--CF cf9 (s n : Int) (x : Int) :: fnK Try.prog S9 noL Try.f9 [w63 s, w63 n, .int .u32 x] []
theorem cf9 (s n : Int) (x : Int) : fnK Try.prog S9 noL Try.f9 [w63 s, w63 n, .int .u32 x] [] =
     (bif decide (0 ≤ n) && decide (n < 1000000000) then bif decide (0 ≤ n) && decide (n < 1000000000) then bif s % 4294967296 * 4294967296 + n * 4294967296 / 1000000000 == s % 4294967296 * 4294967296 + n
     * 4294967296 / 1000000000 then bif s / 4294967296 == s / 4294967296 then bif shortZ n == shortZ n then bif x * 1000000000 / 65536 == x * 1000000000 / 65536 then some (Res.ret (Value.bool true) [])
     else some (Res.ret (Value.bool false) []) else some (Res.ret (Value.bool false) []) else some (Res.ret (Value.bool false) []) else some (Res.ret (Value.bool false) []) else bif s % 4294967296 *
     4294967296 + n * 4294967296 / 1000000000 == 0 then some (Res.ret (Value.bool false) []) else some (Res.ret (Value.bool false) []) else bif decide (0 ≤ n) && decide (n < 1000000000) then bif 0 == s %
     4294967296 * 4294967296 + n * 4294967296 / 1000000000 then some (Res.ret (Value.bool false) []) else some (Res.ret (Value.bool false) []) else bif s / 4294967296 == s / 4294967296 then bif shortZ n ==
     shortZ n then bif x * 1000000000 / 65536 == x * 1000000000 / 65536 then some (Res.ret (Value.bool true) []) else some (Res.ret (Value.bool false) []) else some (Res.ret (Value.bool false) []) else
     some (Res.ret (Value.bool false) [])) := by kernel_rfl
--CFEND
end Go.Proofs.Ytfgehfnlkakioaa.VC

/- StampSplit, StampBack, StampOf: the laws hold. -/
namespace Go.Proofs.Ytfgehfnlkakioaa.VC
open Go Go.Proofs

theorem S7_ok : SpecOK Try.prog S7 := mkS_cons ok39 (mkS_cons ok40 (mkS_cons ok41 (mkS_nil _)))
def F7 : FSpec := fun args h k => match args, h with
  | [.int .u64 _, .int .i64 _], [] => k (.bool true) []
  | _, _ => none
theorem ok7 : EntryOK Try.prog 7 F7 := by
  refine EntryOK.of_fn S7_ok follows_ok Try.func7 (by kernel_rfl) (by kernel_rfl) ?_
  intro args h k out hF
  unfold F7 at hF
  split at hF
  · exact ⟨_, _, hF, fun _ => ⟨noL, noL_ok, by rw [cf7]; simp only [beq_self_eq_true, condT]⟩⟩
  · cases hF

theorem law8 {s n o : Int} : fnK Try.prog S8 noL Try.f8 [w63 s, w63 n, w63 o] [] = some (.ret (.bool true) []) := by
  rw [cf8]
  refine dc (fun _ => rfl) (fun c1 => dc (fun _ => rfl) (fun c2 => dc (fun _ => rfl) (fun c3 => dc (fun _ => rfl) (fun c4 => dc (fun _ => rfl) (fun c5 => dc (fun _ => rfl) (fun c6 => ?_))))))
  have e0 : (s % 4294967296 * 4294967296 + n * 4294967296 / 1000000000) / 4294967296 = s % 4294967296 := by omega
  have e1 : (s % 4294967296 * 4294967296 + n * 4294967296 / 1000000000) % 4294967296 = n * 4294967296 / 1000000000 := by omega
  have w1 : IntKind.i64.wrap (s + o) = s + o := swrap (by omega) (by omega)
  have w2 : IntKind.i64.wrap (n + 1) = n + 1 := swrap (by omega) (by omega)
  have w3 : IntKind.i64.wrap (n - 15259) = n - 15259 := swrap (by omega) (by omega)
  have hn : nearZ (s + o) (s % 4294967296) = s := by
    unfold nearZ
    simp only
    rw [show (s % 4294967296 - (s + o) + 2147483648) % 4294967296 - 2147483648 = -o by omega]
    repeat' split
    all_goals omega
  have hns : nsZ (n * 4294967296 / 1000000000) = n := by
    unfold nsZ upI
    rw [if_neg (show ¬ (4294967296 : Int) ≤ 0 by decide), hold_id (by omega)]
    split <;> omega
  have hx : 0 ≤ shortZ n ∧ shortZ n ≤ 65536 ∧ shortZ n * 1000000000 / 65536 ≥ n - 15259 ∧ shortZ n * 1000000000 / 65536 + 1 ≥ n ∧ (shortZ n = 0 ∨ (shortZ n - 1) * 1000000000 / 65536 < n) := by
    unfold shortZ
    repeat' split
    all_goals omega
  obtain ⟨x0, x1, x2, x3, x4⟩ := hx
  have w4 : IntKind.i64.wrap (shortZ n * 1000000000 / 65536 + 1) = shortZ n * 1000000000 / 65536 + 1 := swrap (by omega) (by omega)
  have tail : (bif decide (shortZ n * 1000000000 / 65536 ≥ n - 15259) then
                 bif decide (shortZ n * 1000000000 / 65536 + 1 ≥ n) then
                   bif shortZ n == 0 then some (Res.ret (Value.bool true) [])
                   else bif decide (IntKind.u32.wrap (shortZ n - 1) * 1000000000 / 65536 < n) then some (Res.ret (Value.bool true) []) else some (Res.ret (Value.bool false) [])
                 else some (Res.ret (Value.bool false) [])
               else some (Res.ret (Value.bool false) [])) = (some (Res.ret (Value.bool true) []) : Out) := by
    rw [dec_t x2, dec_t x3, condT, condT]
    cases hz : (shortZ n == 0) with
    | true => rw [condT]
    | false =>
      have hz := beq_eq_false_iff_ne.1 hz
      have : (shortZ n - 1) * 1000000000 / 65536 < n := by rcases x4 with h | h; exact (hz h).elim; exact h
      rw [condF, wu32e, show (shortZ n - 1) % 4294967296 = shortZ n - 1 by omega, dec_t this, condT]
  rw [dec_t (show 0 ≤ n by omega), dec_t (show n < 1000000000 by omega)]
  simp only [Bool.and_self, condT, e0, e1, w1, w2, w3, w4, hn, hns, bne_self_eq_false, condF]
  refine dc (fun c => ?_) (fun c => tail)
  rw [dec_t (show 0 ≤ n + 1 by omega), dec_t c]
  simp only [Bool.and_self, condT]
  rw [dec_f (show ¬ s % 4294967296 * 4294967296 + (n + 1) * 4294967296 / 1000000000 ≤ s % 4294967296 * 4294967296 + n * 4294967296 / 1000000000 by omega), condF]
  exact tail
def F8 : FSpec := fun args h k => match args, h with
  | [.int .i64 _, .int .i64 _, .int .i64 _], [] => k (.bool true) []
  | _, _ => none
theorem ok8 : EntryOK Try.prog 8 F8 := by
  refine EntryOK.of_fn S8_ok follows_ok Try.func8 (by kernel_rfl) (by kernel_rfl) ?_
  intro args h k out hF
  unfold F8 at hF
  split at hF
  · exact ⟨_, _, hF, fun _ => ⟨noL, noL_ok, law8⟩⟩
  · cases hF

theorem law9 {s n x : Int} : fnK Try.prog S9 noL Try.f9 [w63 s, w63 n, .int .u32 x] [] = some (.ret (.bool true) []) := by
  rw [cf9]
  cases (decide (0 ≤ n) && decide (n < 1000000000)) <;> simp only [condT, condF, beq_self_eq_true]
def F9 : FSpec := fun args h k => match args, h with
  | [.int .i64 _, .int .i64 _, .int .u32 _], [] => k (.bool true) []
  | _, _ => none
theorem ok9 : EntryOK Try.prog 9 F9 := by
  refine EntryOK.of_fn S9_ok follows_ok Try.func9 (by kernel_rfl) (by kernel_rfl) ?_
  intro args h k out hF
  unfold F9 at hF
  split at hF
  · exact ⟨_, _, hF, fun _ => ⟨noL, noL_ok, law9⟩⟩
  · cases hF
theorem lit_u32 {a : Int} (w : (Lit.int .u32 a).wf = true) : IntKind.u32.min ≤ a ∧ a ≤ IntKind.u32.max := by
  simpa [Lit.wf] using w
end Go.Proofs.Ytfgehfnlkakioaa.VC
