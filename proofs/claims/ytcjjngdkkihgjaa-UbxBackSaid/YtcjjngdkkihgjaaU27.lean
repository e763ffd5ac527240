/- ubx: the law of reading back: closed forms. -/
import Derived.Test.YtcjjngdkkihgjaaU26
namespace Go.Proofs.Ytcjjngdkkihgjaa.VC
open Go Go.Proofs

def live5 : List Nat := [2, 3, 8, 9, 18, 19, 20, 21, 22, 23]
abbrev bU (b : Bool) : Value := .bool b
abbrev st5 (N : Nat) (a : Int) (q : Nat) (b : Bool) (i : Int) : List Value := [sl 0 N 2, w63 a, bU false, pt 1, pt 3, w63 0, w63 N, sl 5 (2 * q) 0, bU b, w63 i]
abbrev hp5 (N : Nat) (bs : List Int) (x y x' y' : Int) (q : Nat) (vs ws fl : List Int) : Heap := [rU N bs, uB x y (sl 2 q 1), oI q vs, uB x' y' (sl 4 q 1), oI q ws, oI (2 * q) fl]
--CP r5T (a) (q i : Nat) (N : Nat) (bs : List Int) (x y x' y') (vs ws fl : List Int) (on : List Value → Heap → Out) (out : Exit → List Value → Heap → Out) :: roundK Try.prog ((mkS []).on [(135, true)]) noL Try.f5.ntmps 1 (loopOf Try.f5 0) live5 (st5 N a q true ((2 * i : Nat))) (hp5 N bs x y x' y' q vs ws fl) on out
theorem r5T (a) (q i : Nat) (N : Nat) (bs : List Int) (x y x' y') (vs ws fl : List Int) (on : List Value → Heap → Out) (out : Exit → List Value → Heap → Out)
    (w1 : -9223372036854775808 ≤ (↑((2 : Nat) * i) : Int) + (2 : Int) ∧ (↑((2 : Nat) * i) : Int) + (2 : Int) ≤ 9223372036854775807 := by omega)
    (h1 : (↑((2 : Nat) * i) : Int) < (↑((2 : Nat) * q) : Int) := by first | omega | assumption | rfl) : roundK Try.prog ((mkS []).on [(135, true)]) noL Try.f5.ntmps 1 (loopOf Try.f5 0) live5 (st5 N a q true ((2 * i : Nat))) (hp5 N bs x y x' y' q vs ws fl) on out =
     (on [Value.slice (some (Addr.mk (0 : Nat) (0 : Nat) none)) N (2 : Nat), Value.int IntKind.i64 a, Value.bool false, Value.pointer (some (Addr.mk (1 : Nat) (0 : Nat) none)), Value.pointer (some (Addr.mk
     (3 : Nat) (0 : Nat) none)), Value.int IntKind.i64 (0 : Int), Value.int IntKind.i64 (↑N : Int), Value.slice (some (Addr.mk (5 : Nat) (0 : Nat) none)) ((2 : Nat) * q) (0 : Nat), Value.bool true,
     Value.int IntKind.i64 ((↑((2 : Nat) * i) : Int) + (2 : Int))] [some (Blk.mk false (1 : Nat) [Seg.ints IntKind.u8 N bs]), some (Blk.mk true (3 : Nat) [Seg.ints IntKind.u8 (2 : Nat) [x, y], Seg.vals
     [Value.slice (some (Addr.mk (2 : Nat) (0 : Nat) none)) q (1 : Nat)]]), some (Blk.mk true (1 : Nat) [Seg.ints IntKind.i64 q vs]), some (Blk.mk true (3 : Nat) [Seg.ints IntKind.u8 (2 : Nat) [x', y'],
     Seg.vals [Value.slice (some (Addr.mk (4 : Nat) (0 : Nat) none)) q (1 : Nat)]]), some (Blk.mk true (1 : Nat) [Seg.ints IntKind.i64 q ws]), some (Blk.mk true (1 : Nat) [Seg.ints IntKind.i64 ((2 : Nat) *
     q) fl])]) :=
  Eq.trans (b :=
     bif decide ((↑((2 : Nat) * i) : Int) < (↑((2 : Nat) * q) : Int)) then on [Value.slice (some (Addr.mk (0 : Nat) (0 : Nat) none)) N (2 : Nat), Value.int IntKind.i64 a, Value.bool false, Value.pointer
     (some (Addr.mk (1 : Nat) (0 : Nat) none)), Value.pointer (some (Addr.mk (3 : Nat) (0 : Nat) none)), Value.int IntKind.i64 (0 : Int), Value.int IntKind.i64 (↑N : Int), Value.slice (some (Addr.mk (5 :
     Nat) (0 : Nat) none)) ((2 : Nat) * q) (0 : Nat), Value.bool true, Value.int IntKind.i64 (IntKind.i64.wrap ((↑((2 : Nat) * i) : Int) + (2 : Int)))] [some (Blk.mk false (1 : Nat) [Seg.ints IntKind.u8 N
     bs]), some (Blk.mk true (3 : Nat) [Seg.ints IntKind.u8 (2 : Nat) [x, y], Seg.vals [Value.slice (some (Addr.mk (2 : Nat) (0 : Nat) none)) q (1 : Nat)]]), some (Blk.mk true (1 : Nat) [Seg.ints
     IntKind.i64 q vs]), some (Blk.mk true (3 : Nat) [Seg.ints IntKind.u8 (2 : Nat) [x', y'], Seg.vals [Value.slice (some (Addr.mk (4 : Nat) (0 : Nat) none)) q (1 : Nat)]]), some (Blk.mk true (1 : Nat)
     [Seg.ints IntKind.i64 q ws]), some (Blk.mk true (1 : Nat) [Seg.ints IntKind.i64 ((2 : Nat) * q) fl])] else none) (by kernel_rfl) (by simp only [-eq_self, swrap w1.1 w1.2]; exact (go_t (dec_t h1) rfl))
--CFEND
--CP r5F (a) (q i : Nat) (N : Nat) (bs : List Int) (x y x' y') (vs ws fl : List Int) (on : List Value → Heap → Out) (out : Exit → List Value → Heap → Out) :: roundK Try.prog ((mkS []).on [(135, true), (146, false)]) noL Try.f5.ntmps 1 (loopOf Try.f5 0) live5 (st5 N a q false ((2 * i : Nat))) (hp5 N bs x y x' y' q vs ws fl) on out
theorem r5F (a) (q i : Nat) (N : Nat) (bs : List Int) (x y x' y') (vs ws fl : List Int) (on : List Value → Heap → Out) (out : Exit → List Value → Heap → Out)
    (w1 : -9223372036854775808 ≤ (↑((2 : Nat) * i) : Int) + (2 : Int) ∧ (↑((2 : Nat) * i) : Int) + (2 : Int) ≤ 9223372036854775807 := by omega)
    (h1 : (↑((2 : Nat) * i) : Int) < (↑((2 : Nat) * q) : Int) := by first | omega | assumption | rfl)
    (h2 : (0 : Int) ≤ (↑((2 : Nat) * i) : Int) := by first | omega | assumption | rfl)
    (h3 : (2 : Nat) * i < (2 : Nat) * q := by first | omega | assumption | rfl)
    (h4 : ¬a ≥ fl.getD ((2 : Nat) * i) (0 : Int) := by first | omega | assumption | rfl) : roundK Try.prog ((mkS []).on [(135, true), (146, false)]) noL Try.f5.ntmps 1 (loopOf Try.f5 0) live5 (st5 N a q false ((2 * i : Nat))) (hp5 N bs x y x' y' q vs ws fl) on out =
     (on [Value.slice (some (Addr.mk (0 : Nat) (0 : Nat) none)) N (2 : Nat), Value.int IntKind.i64 a, Value.bool false, Value.pointer (some (Addr.mk (1 : Nat) (0 : Nat) none)), Value.pointer (some (Addr.mk
     (3 : Nat) (0 : Nat) none)), Value.int IntKind.i64 (0 : Int), Value.int IntKind.i64 (↑N : Int), Value.slice (some (Addr.mk (5 : Nat) (0 : Nat) none)) ((2 : Nat) * q) (0 : Nat), Value.bool false,
     Value.int IntKind.i64 ((↑((2 : Nat) * i) : Int) + (2 : Int))] [some (Blk.mk false (1 : Nat) [Seg.ints IntKind.u8 N bs]), some (Blk.mk true (3 : Nat) [Seg.ints IntKind.u8 (2 : Nat) [x, y], Seg.vals
     [Value.slice (some (Addr.mk (2 : Nat) (0 : Nat) none)) q (1 : Nat)]]), some (Blk.mk true (1 : Nat) [Seg.ints IntKind.i64 q vs]), some (Blk.mk true (3 : Nat) [Seg.ints IntKind.u8 (2 : Nat) [x', y'],
     Seg.vals [Value.slice (some (Addr.mk (4 : Nat) (0 : Nat) none)) q (1 : Nat)]]), some (Blk.mk true (1 : Nat) [Seg.ints IntKind.i64 q ws]), some (Blk.mk true (1 : Nat) [Seg.ints IntKind.i64 ((2 : Nat) *
     q) fl])]) :=
  Eq.trans (b :=
     bif decide ((↑((2 : Nat) * i) : Int) < (↑((2 : Nat) * q) : Int)) then bif decide ((0 : Int) ≤ (↑((2 : Nat) * i) : Int)) && decide ((↑((2 : Nat) * i) : Int) < (↑((2 : Nat) * q) : Int)) then bif ((0 :
     Nat) + (↑((2 : Nat) * i) : Int).toNat * (1 : Nat)).blt ((2 : Nat) * q) then bif decide (a ≥ fl.getD ((0 : Nat) + (↑((2 : Nat) * i) : Int).toNat * (1 : Nat)) (0 : Int)) then none else on [Value.slice
     (some (Addr.mk (0 : Nat) (0 : Nat) none)) N (2 : Nat), Value.int IntKind.i64 a, Value.bool false, Value.pointer (some (Addr.mk (1 : Nat) (0 : Nat) none)), Value.pointer (some (Addr.mk (3 : Nat) (0 :
     Nat) none)), Value.int IntKind.i64 (0 : Int), Value.int IntKind.i64 (↑N : Int), Value.slice (some (Addr.mk (5 : Nat) (0 : Nat) none)) ((2 : Nat) * q) (0 : Nat), Value.bool false, Value.int IntKind.i64
     (IntKind.i64.wrap ((↑((2 : Nat) * i) : Int) + (2 : Int)))] [some (Blk.mk false (1 : Nat) [Seg.ints IntKind.u8 N bs]), some (Blk.mk true (3 : Nat) [Seg.ints IntKind.u8 (2 : Nat) [x, y], Seg.vals
     [Value.slice (some (Addr.mk (2 : Nat) (0 : Nat) none)) q (1 : Nat)]]), some (Blk.mk true (1 : Nat) [Seg.ints IntKind.i64 q vs]), some (Blk.mk true (3 : Nat) [Seg.ints IntKind.u8 (2 : Nat) [x', y'],
     Seg.vals [Value.slice (some (Addr.mk (4 : Nat) (0 : Nat) none)) q (1 : Nat)]]), some (Blk.mk true (1 : Nat) [Seg.ints IntKind.i64 q ws]), some (Blk.mk true (1 : Nat) [Seg.ints IntKind.i64 ((2 : Nat) *
     q) fl])] else none else none else none) (by kernel_rfl) (by simp only [-eq_self, Int.toNat_natCast, Nat.mul_one, Nat.zero_add, swrap w1.1 w1.2]; exact (go_t (dec_t h1) (go_t (and_t (dec_t h2) (dec_t h1)) (go_t (blt_t h3) (go_f (dec_f h4) rfl)))))
--CFEND
--CP r5I (a) (q i : Nat) (N : Nat) (bs : List Int) (x y x' y') (vs ws fl : List Int) (on : List Value → Heap → Out) (out : Exit → List Value → Heap → Out) :: roundK Try.prog ((mkS []).on [(135, true), (146, true)]) noL Try.f5.ntmps 1 (loopOf Try.f5 0) live5 (st5 N a q false ((2 * i : Nat))) (hp5 N bs x y x' y' q vs ws fl) on out
theorem r5I (a) (q i : Nat) (N : Nat) (bs : List Int) (x y x' y') (vs ws fl : List Int) (on : List Value → Heap → Out) (out : Exit → List Value → Heap → Out)
    (w1 : -9223372036854775808 ≤ (↑((2 : Nat) * i) : Int) + (1 : Int) ∧ (↑((2 : Nat) * i) : Int) + (1 : Int) ≤ 9223372036854775807 := by omega)
    (w2 : -9223372036854775808 ≤ (0 : Int) - fl.getD ((↑((2 : Nat) * i) : Int) + (1 : Int)).toNat (0 : Int) ∧ (0 : Int) - fl.getD ((↑((2 : Nat) * i) : Int) + (1 : Int)).toNat (0 : Int) ≤ 9223372036854775807 := by omega)
    (w3 : -9223372036854775808 ≤ (fl.getD ((2 : Nat) * i) (0 : Int) + if (0 : Int) - fl.getD ((↑((2 : Nat) * i) : Int) + (1 : Int)).toNat (0 : Int) > fl.getD ((↑((2 : Nat) * i) : Int) + (1 : Int)).toNat (0 : Int) then (0 : Int) - fl.getD ((↑((2 : Nat) * i) : Int) + (1 : Int)).toNat (0 : Int) else fl.getD ((↑((2 : Nat) * i) : Int) + (1 : Int)).toNat (0 : Int)) ∧ (fl.getD ((2 : Nat) * i) (0 : Int) + if (0 : Int) - fl.getD ((↑((2 : Nat) * i) : Int) + (1 : Int)).toNat (0 : Int) > fl.getD ((↑((2 : Nat) * i) : Int) + (1 : Int)).toNat (0 : Int) then (0 : Int) - fl.getD ((↑((2 : Nat) * i) : Int) + (1 : Int)).toNat (0 : Int) else fl.getD ((↑((2 : Nat) * i) : Int) + (1 : Int)).toNat (0 : Int)) ≤ 9223372036854775807 := by omega)
    (w4 : -9223372036854775808 ≤ (↑((2 : Nat) * i) : Int) + (2 : Int) ∧ (↑((2 : Nat) * i) : Int) + (2 : Int) ≤ 9223372036854775807 := by omega)
    (h1 : (↑((2 : Nat) * i) : Int) < (↑((2 : Nat) * q) : Int) := by first | omega | assumption | rfl)
    (h2 : (0 : Int) ≤ (↑((2 : Nat) * i) : Int) := by first | omega | assumption | rfl)
    (h3 : (2 : Nat) * i < (2 : Nat) * q := by first | omega | assumption | rfl)
    (h4 : a ≥ fl.getD ((2 : Nat) * i) (0 : Int) := by first | omega | assumption | rfl)
    (h5 : (0 : Int) ≤ (↑((2 : Nat) * i) : Int) + (1 : Int) := by first | omega | assumption | rfl)
    (h6 : (↑((2 : Nat) * i) : Int) + (1 : Int) < (↑((2 : Nat) * q) : Int) := by first | omega | assumption | rfl)
    (h7 : ((↑((2 : Nat) * i) : Int) + (1 : Int)).toNat < (2 : Nat) * q := by first | omega | assumption | rfl) : roundK Try.prog ((mkS []).on [(135, true), (146, true)]) noL Try.f5.ntmps 1 (loopOf Try.f5 0) live5 (st5 N a q false ((2 * i : Nat))) (hp5 N bs x y x' y' q vs ws fl) on out =
     (on [Value.slice (some (Addr.mk (0 : Nat) (0 : Nat) none)) N (2 : Nat), Value.int IntKind.i64 a, Value.bool false, Value.pointer (some (Addr.mk (1 : Nat) (0 : Nat) none)), Value.pointer (some (Addr.mk
     (3 : Nat) (0 : Nat) none)), Value.int IntKind.i64 (0 : Int), Value.int IntKind.i64 (↑N : Int), Value.slice (some (Addr.mk (5 : Nat) (0 : Nat) none)) ((2 : Nat) * q) (0 : Nat), Value.bool (decide (a <
     fl.getD ((2 : Nat) * i) (0 : Int) + if (0 : Int) - fl.getD ((↑((2 : Nat) * i) : Int) + (1 : Int)).toNat (0 : Int) > fl.getD ((↑((2 : Nat) * i) : Int) + (1 : Int)).toNat (0 : Int) then (0 : Int) -
     fl.getD ((↑((2 : Nat) * i) : Int) + (1 : Int)).toNat (0 : Int) else fl.getD ((↑((2 : Nat) * i) : Int) + (1 : Int)).toNat (0 : Int))), Value.int IntKind.i64 ((↑((2 : Nat) * i) : Int) + (2 : Int))]
     [some (Blk.mk false (1 : Nat) [Seg.ints IntKind.u8 N bs]), some (Blk.mk true (3 : Nat) [Seg.ints IntKind.u8 (2 : Nat) [x, y], Seg.vals [Value.slice (some (Addr.mk (2 : Nat) (0 : Nat) none)) q (1 :
     Nat)]]), some (Blk.mk true (1 : Nat) [Seg.ints IntKind.i64 q vs]), some (Blk.mk true (3 : Nat) [Seg.ints IntKind.u8 (2 : Nat) [x', y'], Seg.vals [Value.slice (some (Addr.mk (4 : Nat) (0 : Nat) none))
     q (1 : Nat)]]), some (Blk.mk true (1 : Nat) [Seg.ints IntKind.i64 q ws]), some (Blk.mk true (1 : Nat) [Seg.ints IntKind.i64 ((2 : Nat) * q) fl])]) :=
  Eq.trans (b :=
     bif decide ((↑((2 : Nat) * i) : Int) < (↑((2 : Nat) * q) : Int)) then bif decide ((0 : Int) ≤ (↑((2 : Nat) * i) : Int)) && decide ((↑((2 : Nat) * i) : Int) < (↑((2 : Nat) * q) : Int)) then bif ((0 :
     Nat) + (↑((2 : Nat) * i) : Int).toNat * (1 : Nat)).blt ((2 : Nat) * q) then bif decide (a ≥ fl.getD ((0 : Nat) + (↑((2 : Nat) * i) : Int).toNat * (1 : Nat)) (0 : Int)) then bif decide ((0 : Int) ≤
     (↑((2 : Nat) * i) : Int)) && decide ((↑((2 : Nat) * i) : Int) < (↑((2 : Nat) * q) : Int)) then bif ((0 : Nat) + (↑((2 : Nat) * i) : Int).toNat * (1 : Nat)).blt ((2 : Nat) * q) then bif decide ((0 :
     Int) ≤ IntKind.i64.wrap ((↑((2 : Nat) * i) : Int) + (1 : Int))) && decide (IntKind.i64.wrap ((↑((2 : Nat) * i) : Int) + (1 : Int)) < (↑((2 : Nat) * q) : Int)) then bif ((0 : Nat) + (IntKind.i64.wrap
     ((↑((2 : Nat) * i) : Int) + (1 : Int))).toNat * (1 : Nat)).blt ((2 : Nat) * q) then bif decide ((0 : Int) ≤ IntKind.i64.wrap ((↑((2 : Nat) * i) : Int) + (1 : Int))) && decide (IntKind.i64.wrap ((↑((2
     : Nat) * i) : Int) + (1 : Int)) < (↑((2 : Nat) * q) : Int)) then bif ((0 : Nat) + (IntKind.i64.wrap ((↑((2 : Nat) * i) : Int) + (1 : Int))).toNat * (1 : Nat)).blt ((2 : Nat) * q) then on [Value.slice
     (some (Addr.mk (0 : Nat) (0 : Nat) none)) N (2 : Nat), Value.int IntKind.i64 a, Value.bool false, Value.pointer (some (Addr.mk (1 : Nat) (0 : Nat) none)), Value.pointer (some (Addr.mk (3 : Nat) (0 :
     Nat) none)), Value.int IntKind.i64 (0 : Int), Value.int IntKind.i64 (↑N : Int), Value.slice (some (Addr.mk (5 : Nat) (0 : Nat) none)) ((2 : Nat) * q) (0 : Nat), Value.bool (decide (a <
     IntKind.i64.wrap (fl.getD ((0 : Nat) + (↑((2 : Nat) * i) : Int).toNat * (1 : Nat)) (0 : Int) + if IntKind.i64.wrap ((0 : Int) - fl.getD ((0 : Nat) + (IntKind.i64.wrap ((↑((2 : Nat) * i) : Int) + (1 :
     Int))).toNat * (1 : Nat)) (0 : Int)) > fl.getD ((0 : Nat) + (IntKind.i64.wrap ((↑((2 : Nat) * i) : Int) + (1 : Int))).toNat * (1 : Nat)) (0 : Int) then IntKind.i64.wrap ((0 : Int) - fl.getD ((0 : Nat)
     + (IntKind.i64.wrap ((↑((2 : Nat) * i) : Int) + (1 : Int))).toNat * (1 : Nat)) (0 : Int)) else fl.getD ((0 : Nat) + (IntKind.i64.wrap ((↑((2 : Nat) * i) : Int) + (1 : Int))).toNat * (1 : Nat)) (0 :
     Int)))), Value.int IntKind.i64 (IntKind.i64.wrap ((↑((2 : Nat) * i) : Int) + (2 : Int)))] [some (Blk.mk false (1 : Nat) [Seg.ints IntKind.u8 N bs]), some (Blk.mk true (3 : Nat) [Seg.ints IntKind.u8 (2
     : Nat) [x, y], Seg.vals [Value.slice (some (Addr.mk (2 : Nat) (0 : Nat) none)) q (1 : Nat)]]), some (Blk.mk true (1 : Nat) [Seg.ints IntKind.i64 q vs]), some (Blk.mk true (3 : Nat) [Seg.ints
     IntKind.u8 (2 : Nat) [x', y'], Seg.vals [Value.slice (some (Addr.mk (4 : Nat) (0 : Nat) none)) q (1 : Nat)]]), some (Blk.mk true (1 : Nat) [Seg.ints IntKind.i64 q ws]), some (Blk.mk true (1 : Nat)
     [Seg.ints IntKind.i64 ((2 : Nat) * q) fl])] else none else none else none else none else none else none else none else none else none else none) (by kernel_rfl) (by simp only [-eq_self, Int.toNat_natCast, Nat.mul_one, Nat.zero_add, swrap w1.1 w1.2, swrap w2.1 w2.2, swrap w3.1 w3.2, swrap w4.1 w4.2]; exact (go_t (dec_t h1) (go_t (and_t (dec_t h2) (dec_t h1)) (go_t (blt_t h3) (go_t (dec_t h4) (go_t (and_t (dec_t h2) (dec_t h1)) (go_t (blt_t h3) (go_t (and_t (dec_t h5) (dec_t h6)) (go_t (blt_t h7) (go_t (and_t (dec_t h5) (dec_t h6)) (go_t (blt_t h7) rfl)))))))))))
--CFEND
--CP r5X (a) (b : Bool) (q i : Nat) (N : Nat) (bs : List Int) (x y x' y') (vs ws fl : List Int) (on : List Value → Heap → Out) (out : Exit → List Value → Heap → Out) :: roundK Try.prog ((mkS []).on [(135, false)]) noL Try.f5.ntmps 1 (loopOf Try.f5 0) live5 (st5 N a q b ((2 * i : Nat))) (hp5 N bs x y x' y' q vs ws fl) on out
theorem r5X (a) (b : Bool) (q i : Nat) (N : Nat) (bs : List Int) (x y x' y') (vs ws fl : List Int) (on : List Value → Heap → Out) (out : Exit → List Value → Heap → Out)
    (h1 : ¬(↑((2 : Nat) * i) : Int) < (↑((2 : Nat) * q) : Int) := by first | omega | assumption | rfl) : roundK Try.prog ((mkS []).on [(135, false)]) noL Try.f5.ntmps 1 (loopOf Try.f5 0) live5 (st5 N a q b ((2 * i : Nat))) (hp5 N bs x y x' y' q vs ws fl) on out =
     (out (Exit.exit (0 : Nat)) [Value.slice (some (Addr.mk (0 : Nat) (0 : Nat) none)) N (2 : Nat), Value.int IntKind.i64 a, Value.bool false, Value.pointer (some (Addr.mk (1 : Nat) (0 : Nat) none)),
     Value.pointer (some (Addr.mk (3 : Nat) (0 : Nat) none)), Value.int IntKind.i64 (0 : Int), Value.int IntKind.i64 (↑N : Int), Value.slice (some (Addr.mk (5 : Nat) (0 : Nat) none)) ((2 : Nat) * q) (0 :
     Nat), Value.bool b, Value.int IntKind.i64 (↑((2 : Nat) * i) : Int)] [some (Blk.mk false (1 : Nat) [Seg.ints IntKind.u8 N bs]), some (Blk.mk true (3 : Nat) [Seg.ints IntKind.u8 (2 : Nat) [x, y],
     Seg.vals [Value.slice (some (Addr.mk (2 : Nat) (0 : Nat) none)) q (1 : Nat)]]), some (Blk.mk true (1 : Nat) [Seg.ints IntKind.i64 q vs]), some (Blk.mk true (3 : Nat) [Seg.ints IntKind.u8 (2 : Nat)
     [x', y'], Seg.vals [Value.slice (some (Addr.mk (4 : Nat) (0 : Nat) none)) q (1 : Nat)]]), some (Blk.mk true (1 : Nat) [Seg.ints IntKind.i64 q ws]), some (Blk.mk true (1 : Nat) [Seg.ints IntKind.i64
     ((2 : Nat) * q) fl])]) :=
  Eq.trans (by kernel_rfl) (go_f (dec_f h1) rfl)
--CFEND
noncomputable def L5f : LF := fun vs h k => match vs, h with
  | [.slice (some ⟨0, 0, none⟩) n 2, .int .i64 a, .bool false, .pointer (some ⟨1, 0, none⟩), .pointer (some ⟨3, 0, none⟩), .int .i64 0, .int .i64 n', .slice (some ⟨5, 0, none⟩) K 0, .bool false, .int .i64 0], [some ⟨false, 1, [.ints .u8 N bs]⟩, some ⟨true, 3, [.ints .u8 2 [x, y], .vals [.slice (some ⟨2, 0, none⟩) q 1]]⟩, some ⟨true, 1, [.ints .i64 q1 us]⟩, some ⟨true, 3, [.ints .u8 2 [x', y'], .vals [.slice (some ⟨4, 0, none⟩) q2 1]]⟩, some ⟨true, 1, [.ints .i64 q3 ws]⟩, some ⟨true, 1, [.ints .i64 K' fl]⟩] =>
    bif chk (n = N ∧ n' = N ∧ q1 = q ∧ q2 = q ∧ q3 = q ∧ K = 2 * q ∧ K' = 2 * q ∧ q ≤ 100 ∧ fldsOK 1000000 fl q) then k (.exit 0) (st5 N a q (inU fl a q) ((2 * q : Nat) : Int)) (hp5 N bs x y x' y' q us ws fl) else none
  | _, _ => none
noncomputable def L5 : LSpec := oneL 18 live5 L5f
noncomputable def FSmB : FSpec := fun args h k => match args, h with
  | [.agg ⟨[.int .u8 a, .int .u8 b, .slice (some ⟨0, 0, none⟩) n' _]⟩, .agg ⟨[.int .u8 a', .int .u8 b', .slice (some ⟨1, 0, none⟩) m' _]⟩], [some ⟨false, 1, [.ints .i64 n xs]⟩, some ⟨false, 1, [.ints .i64 m ys]⟩] =>
    bif chk (a = a' ∧ b = b' ∧ n' = n ∧ m' = m ∧ n = m ∧ n ≤ 1000000) then k (.bool (chk (sameTo xs ys n))) [rI n xs, rI m ys] else none
  | _, _ => none
noncomputable def S5 (len : Nat) (fl : List Int) : Spec := mkS [(15, false, FDecUV fl), (18, false, FPayUK len fl), (20, false, FEnUK len fl), (17, false, FSmB), (22, false, FLayURv len fl), (14, false, FKnU)]
noncomputable def S5E (e : Int) : Spec := mkS [(15, false, FDecUE e), (14, false, FKnU)]
--CP p5N (x y a) (n : Nat) (xs : List Int) :: fnK Try.prog ((S5E 0).on [(26, true)]) noL Try.f5 [u8v x, u8v y, sl 0 n 2, w63 a] [rU n xs]
theorem p5N (x y a) (n : Nat) (xs : List Int)
    (h1 : (↑n : Int) > (600 : Int) := by first | omega | assumption | rfl) : fnK Try.prog ((S5E 0).on [(26, true)]) noL Try.f5 [u8v x, u8v y, sl 0 n 2, w63 a] [rU n xs] =
     (some (Res.ret (Value.bool true) [some (Blk.mk false (1 : Nat) [Seg.ints IntKind.u8 n xs])])) :=
  Eq.trans (by kernel_rfl) (go_t (dec_t h1) rfl)
--CFEND
--CP p5E (x y a e) (n : Nat) (xs : List Int) :: fnK Try.prog ((S5E e).on [(26, false), (36, true)]) noL Try.f5 [u8v x, u8v y, sl 0 n 2, w63 a] [rU n xs]
theorem p5E (x y a e) (n : Nat) (xs : List Int)
    (h1 : ¬(↑n : Int) > (600 : Int) := by first | omega | assumption | rfl)
    (h2 : n ≤ n ∧ n ≤ (1000000 : Nat) ∧ errU n x y = e ∧ e ≠ (0 : Int) := by first | omega | assumption | rfl | ((repeat' with_reducible apply And.intro) <;> first | rfl | assumption | omega))
    (h3 : e ≠ (0 : Int) := by first | omega | assumption | rfl) : fnK Try.prog ((S5E e).on [(26, false), (36, true)]) noL Try.f5 [u8v x, u8v y, sl 0 n 2, w63 a] [rU n xs] =
     (some (Res.ret (Value.bool true) [some (Blk.mk false (1 : Nat) [Seg.ints IntKind.u8 n xs])])) :=
  Eq.trans (b :=
     bif decide ((↑n : Int) > (600 : Int)) then none else bif chk ((0 : Nat) + n ≤ n ∧ n ≤ (1000000 : Nat) ∧ errU n x y = e ∧ e ≠ (0 : Int)) then bif e != (0 : Int) then some (Res.ret (Value.bool true)
     [some (Blk.mk false (1 : Nat) [Seg.ints IntKind.u8 n xs])]) else none else none) (by kernel_rfl) (by simp only [-eq_self, Nat.zero_add]; exact (go_f (dec_f h1) (go_t (chk_t h2) (go_t (bne_t h3) rfl))))
--CFEND
--CP p5M (x y a) (n : Nat) (xs fl : List Int) :: fnK Try.prog ((S5 n fl).on [(26, false), (36, false), (77, false), (84, false), (92, false), (102, false), (176, true), (184, true)]) L5 Try.f5 [u8v x, u8v y, sl 0 n 2, w63 a] [rU n xs]
theorem p5M (x y a) (n : Nat) (xs fl : List Int)
    (w1 : -9223372036854775808 ≤ (↑n : Int) + (8 : Int) ∧ (↑n : Int) + (8 : Int) ≤ 9223372036854775807 := by omega)
    (w2 : -9223372036854775808 ≤ (6 : Int) + (↑n : Int) ∧ (6 : Int) + (↑n : Int) ≤ 9223372036854775807 := by omega)
    (w3 : -9223372036854775808 ≤ (IntKind.u64.wrap a).tmod (IntKind.u64.wrap (↑n : Int)) ∧ (IntKind.u64.wrap a).tmod (IntKind.u64.wrap (↑n : Int)) ≤ 9223372036854775807 := by omega)
    (h1 : ¬(↑n : Int) > (600 : Int) := by first | omega | assumption | rfl)
    (h2 : n ≤ n ∧ n ≤ (1000000 : Nat) ∧ layU x y = some (n, fl) := by first | omega | assumption | rfl | ((repeat' with_reducible apply And.intro) <;> first | rfl | assumption | omega))
    (h3 : layU x y = some (n, fl) ∧ (2 : Nat) * (fl.length / (2 : Nat)) = fl.length ∧ fl.length / (2 : Nat) = fl.length / (2 : Nat) ∧ fitsTo fl (decL xs (0 : Nat) fl (fl.length / (2 : Nat))) (fl.length / (2 : Nat)) := by first | omega | assumption | rfl | ((repeat' with_reducible apply And.intro) <;> first | rfl | assumption | omega))
    (h4 : x = x ∧ y = y ∧ fl.length / (2 : Nat) = fl.length / (2 : Nat) ∧ fl.length / (2 : Nat) = fl.length / (2 : Nat) ∧ fl.length / (2 : Nat) = fl.length / (2 : Nat) ∧ fl.length / (2 : Nat) ≤ (1000000 : Nat) := by first | omega | assumption | rfl | ((repeat' with_reducible apply And.intro) <;> first | rfl | assumption | omega))
    (h5 : sameTo (decL xs (0 : Nat) fl (fl.length / (2 : Nat))) (decL (payL (List.replicate n (0 : Int)) fl (decL xs (0 : Nat) fl (fl.length / (2 : Nat))) (fl.length / (2 : Nat))) (0 : Nat) fl (fl.length / (2 : Nat))) (fl.length / (2 : Nat)) := by first | omega | assumption | rfl)
    (h6 : (↑n : Int) = (↑n : Int) := by first | omega | assumption | rfl)
    (h7 : (↑(n + (8 : Nat)) : Int) = (↑n : Int) + (8 : Int) := by first | omega | assumption | rfl)
    (h8 : (6 : Int) ≤ (6 : Int) + (↑n : Int) := by first | omega | assumption | rfl)
    (h9 : (6 : Int) + (↑n : Int) ≤ (↑(n + (8 : Nat)) : Int) := by first | omega | assumption | rfl)
    (h10 : ((6 : Int) + (↑n : Int) - (6 : Int)).toNat ≤ n + (8 : Nat) - (6 : Nat) := by first | omega | assumption | rfl)
    (h11 : ((6 : Int) + (↑n : Int) - (6 : Int)).toNat ≤ (4611686018427387904 : Nat) := by first | omega | assumption | rfl)
    (h12 : n ≤ n := by first | omega | assumption | rfl)
    (h13 : n ≤ (4611686018427387904 : Nat) := by first | omega | assumption | rfl)
    (h14 : ((strOf (List.take ((6 : Int) + (↑n : Int) - (6 : Int)).toNat (List.drop (6 : Nat) (frmU x y n (payL (List.replicate n (0 : Int)) fl (decL xs (0 : Nat) fl (fl.length / (2 : Nat))) (fl.length / (2 : Nat))))))).toList == (strOf (List.take n (payL (List.replicate n (0 : Int)) fl (decL xs (0 : Nat) fl (fl.length / (2 : Nat))) (fl.length / (2 : Nat))))).toList) = true := by first | omega | assumption | rfl)
    (h15 : ¬IntKind.u64.wrap (↑n : Int) = (0 : Int) := by first | omega | assumption | rfl)
    (h16 : n ≤ (140737488355328 : Nat) := by first | omega | assumption | rfl)
    (h17 : (0 : Int) ≤ (IntKind.u64.wrap a).tmod (IntKind.u64.wrap (↑n : Int)) := by first | omega | assumption | rfl)
    (h18 : (IntKind.u64.wrap a).tmod (IntKind.u64.wrap (↑n : Int)) < (↑n : Int) := by first | omega | assumption | rfl)
    (h19 : ((IntKind.u64.wrap a).tmod (IntKind.u64.wrap (↑n : Int))).toNat < n := by first | omega | assumption | rfl)
    (h20 : layU x y = some (n, fl) := by first | omega | assumption | rfl)
    (h21 : n = n ∧ (↑n : Int) = (↑n : Int) ∧ fl.length / (2 : Nat) = fl.length / (2 : Nat) ∧ fl.length / (2 : Nat) = fl.length / (2 : Nat) ∧ fl.length / (2 : Nat) = fl.length / (2 : Nat) ∧ fl.length = (2 : Nat) * (fl.length / (2 : Nat)) ∧ fl.length = (2 : Nat) * (fl.length / (2 : Nat)) ∧ fl.length / (2 : Nat) ≤ (100 : Nat) ∧ fldsOK (1000000 : Nat) fl (fl.length / (2 : Nat)) := by first | omega | assumption | rfl | ((repeat' with_reducible apply And.intro) <;> first | rfl | assumption | omega))
    (h22 : chk (sameTo (decL xs (0 : Nat) fl (fl.length / (2 : Nat))) (decL ((List.take n xs).set ((IntKind.u64.wrap a).tmod (IntKind.u64.wrap (↑n : Int))).toNat (IntKind.u8.wrap ((List.take n xs).getD ((IntKind.u64.wrap a).tmod (IntKind.u64.wrap (↑n : Int))).toNat (0 : Int) + (1 : Int)))) (0 : Nat) fl (fl.length / (2 : Nat))) (fl.length / (2 : Nat))) = !inU fl ((IntKind.u64.wrap a).tmod (IntKind.u64.wrap (↑n : Int))) (fl.length / (2 : Nat)) := by first | omega | assumption | rfl) : fnK Try.prog ((S5 n fl).on [(26, false), (36, false), (77, false), (84, false), (92, false), (102, false), (176, true), (184, true)]) L5 Try.f5 [u8v x, u8v y, sl 0 n 2, w63 a] [rU n xs] =
     (some (Res.ret (Value.bool true) [some (Blk.mk false (1 : Nat) [Seg.ints IntKind.u8 n xs])])) :=
  Eq.trans (b :=
     bif decide ((↑n : Int) > (600 : Int)) then none else bif chk ((0 : Nat) + n ≤ n ∧ n ≤ (1000000 : Nat) ∧ layU x y = some (n, fl)) then bif chk (layU x y = some (n, fl) ∧ (2 : Nat) * (fl.length / (2 :
     Nat)) = fl.length ∧ fl.length / (2 : Nat) = fl.length / (2 : Nat) ∧ fitsTo fl (decL xs (0 : Nat) fl (fl.length / (2 : Nat))) (fl.length / (2 : Nat))) then bif chk ((0 : Nat) + n ≤ n ∧ n ≤ (1000000 :
     Nat) ∧ layU x y = some (n, fl)) then bif chk (layU x y = some (n, fl) ∧ (2 : Nat) * (fl.length / (2 : Nat)) = fl.length ∧ fl.length / (2 : Nat) = fl.length / (2 : Nat) ∧ fitsTo fl (decL xs (0 : Nat)
     fl (fl.length / (2 : Nat))) (fl.length / (2 : Nat))) then bif chk (x = x ∧ y = y ∧ fl.length / (2 : Nat) = fl.length / (2 : Nat) ∧ fl.length / (2 : Nat) = fl.length / (2 : Nat) ∧ fl.length / (2 : Nat)
     = fl.length / (2 : Nat) ∧ fl.length / (2 : Nat) ≤ (1000000 : Nat)) then bif !chk (sameTo (decL xs (0 : Nat) fl (fl.length / (2 : Nat))) (decL (payL (List.replicate n (0 : Int)) fl (decL xs (0 : Nat)
     fl (fl.length / (2 : Nat))) (fl.length / (2 : Nat))) (0 : Nat) fl (fl.length / (2 : Nat))) (fl.length / (2 : Nat))) then none else bif (↑n : Int) != (↑n : Int) then none else bif (↑(n + (8 : Nat)) :
     Int) != IntKind.i64.wrap ((↑n : Int) + (8 : Int)) then none else bif decide ((6 : Int) ≤ IntKind.i64.wrap ((6 : Int) + (↑n : Int))) && decide (IntKind.i64.wrap ((6 : Int) + (↑n : Int)) ≤ (↑(n + (8 :
     Nat)) : Int)) then bif ((IntKind.i64.wrap ((6 : Int) + (↑n : Int)) - (6 : Int)).toNat * (1 : Nat)).ble (n + (8 : Nat) - (6 : Nat)) then bif (IntKind.i64.wrap ((6 : Int) + (↑n : Int)) - (6 :
     Int)).toNat.ble (OfNat.ofNat (4611686018427387904 : Nat)) then bif (n * (1 : Nat)).ble n then bif n.ble (OfNat.ofNat (4611686018427387904 : Nat)) then bif !(strOf (List.take ((IntKind.i64.wrap ((6 :
     Int) + (↑n : Int)) - (6 : Int)).toNat * (1 : Nat)) (List.drop (6 : Nat) (frmU x y n (payL (List.replicate n (0 : Int)) fl (decL xs (0 : Nat) fl (fl.length / (2 : Nat))) (fl.length / (2 :
     Nat))))))).toList == (strOf (List.take (n * (1 : Nat)) (payL (List.replicate n (0 : Int)) fl (decL xs (0 : Nat) fl (fl.length / (2 : Nat))) (fl.length / (2 : Nat))))).toList then none else bif decide
     (IntKind.u64.wrap (↑n : Int) = (0 : Int)) then none else bif (n * (1 : Nat)).ble n then bif decide (((0 : Nat) + n) * (1 : Nat) ≤ (140737488355328 : Nat)) && ((0 : Nat) + n).ble (OfNat.ofNat
     (4611686018427387904 : Nat)) then bif decide ((0 : Int) ≤ IntKind.i64.wrap ((IntKind.u64.wrap a).tmod (IntKind.u64.wrap (↑n : Int)))) && decide (IntKind.i64.wrap ((IntKind.u64.wrap a).tmod
     (IntKind.u64.wrap (↑n : Int))) < (↑((0 : Nat) + n) : Int)) then bif ((0 : Nat) + (IntKind.i64.wrap ((IntKind.u64.wrap a).tmod (IntKind.u64.wrap (↑n : Int)))).toNat * (1 : Nat)).blt (n * (1 : Nat))
     then bif decide ((0 : Int) ≤ IntKind.i64.wrap ((IntKind.u64.wrap a).tmod (IntKind.u64.wrap (↑n : Int)))) && decide (IntKind.i64.wrap ((IntKind.u64.wrap a).tmod (IntKind.u64.wrap (↑n : Int))) < (↑((0 :
     Nat) + n) : Int)) then bif ((0 : Nat) + (IntKind.i64.wrap ((IntKind.u64.wrap a).tmod (IntKind.u64.wrap (↑n : Int)))).toNat * (1 : Nat)).blt (n * (1 : Nat)) then bif chk ((0 : Nat) + ((0 : Nat) + n) ≤
     n * (1 : Nat) ∧ n * (1 : Nat) ≤ (1000000 : Nat) ∧ layU x y = some ((0 : Nat) + n, fl)) then bif chk (layU x y = some (n, fl)) then bif chk (n = n ∧ (↑n : Int) = (↑n : Int) ∧ fl.length / (2 : Nat) =
     fl.length / (2 : Nat) ∧ fl.length / (2 : Nat) = fl.length / (2 : Nat) ∧ fl.length / (2 : Nat) = fl.length / (2 : Nat) ∧ fl.length = (2 : Nat) * (fl.length / (2 : Nat)) ∧ fl.length = (2 : Nat) *
     (fl.length / (2 : Nat)) ∧ fl.length / (2 : Nat) ≤ (100 : Nat) ∧ fldsOK (1000000 : Nat) fl (fl.length / (2 : Nat))) then bif (↑n : Int) == (↑n : Int) then bif chk (x = x ∧ y = y ∧ fl.length / (2 : Nat)
     = fl.length / (2 : Nat) ∧ fl.length / (2 : Nat) = fl.length / (2 : Nat) ∧ fl.length / (2 : Nat) = fl.length / (2 : Nat) ∧ fl.length / (2 : Nat) ≤ (1000000 : Nat)) then bif chk (sameTo (decL xs (0 :
     Nat) fl (fl.length / (2 : Nat))) (decL ((List.take (n * (1 : Nat)) xs).set ((0 : Nat) + (IntKind.i64.wrap ((IntKind.u64.wrap a).tmod (IntKind.u64.wrap (↑n : Int)))).toNat * (1 : Nat)) (IntKind.u8.wrap
     ((List.take (n * (1 : Nat)) xs).getD ((0 : Nat) + (IntKind.i64.wrap ((IntKind.u64.wrap a).tmod (IntKind.u64.wrap (↑n : Int)))).toNat * (1 : Nat)) (0 : Int) + (1 : Int)))) (0 : Nat) fl (fl.length / (2
     : Nat))) (fl.length / (2 : Nat))) == !inU fl (IntKind.i64.wrap ((IntKind.u64.wrap a).tmod (IntKind.u64.wrap (↑n : Int)))) (fl.length / (2 : Nat)) then some (Res.ret (Value.bool true) [some (Blk.mk
     false (1 : Nat) [Seg.ints IntKind.u8 n xs])]) else none else none else none else none else none else none else none else none else none else none else none else none else none else none else none else
     none else none else none else none else none else none else none) (by kernel_rfl) (by simp only [-eq_self, Nat.zero_add, Nat.mul_one, swrap w1.1 w1.2, swrap w2.1 w2.2, swrap w3.1 w3.2]; exact (go_f (dec_f h1) (go_t (chk_t h2) (go_t (chk_t h3) (go_t (chk_t h2) (go_t (chk_t h3) (go_t (chk_t h4) (go_f (not_f (chk_t h5)) (go_f (bne_f h6) (go_f (bne_f h7) (go_t (and_t (dec_t h8) (dec_t h9)) (go_t (ble_t h10) (go_t (ble_t h11) (go_t (ble_t h12) (go_t (ble_t h13) (go_f (not_f h14) (go_f (dec_f h15) (go_t (ble_t h12) (go_t (and_t (dec_t h16) (ble_t h13)) (go_t (and_t (dec_t h17) (dec_t h18)) (go_t (blt_t h19) (go_t (and_t (dec_t h17) (dec_t h18)) (go_t (blt_t h19) (go_t (chk_t h2) (go_t (chk_t h20) (go_t (chk_t h21) (go_t (eqb_t h6) (go_t (chk_t h4) (go_t (eqb_t h22) rfl)))))))))))))))))))))))))))))
--CFEND
end Go.Proofs.Ytcjjngdkkihgjaa.VC
