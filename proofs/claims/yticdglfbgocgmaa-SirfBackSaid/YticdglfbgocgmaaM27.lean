/- sirf: the law of reading back: its loop. -/
import Derived.Test.YticdglfbgocgmaaM26
namespace Go.Proofs.Yticdglfbgocgmaa.VC
open Go Go.Proofs

def live8 : List Nat := [1, 4, 5, 14, 15, 17, 18, 19]
abbrev bl (b : Bool) : Value := .bool b
abbrev st8 (a : Int) (q : Nat) (b : Bool) (i : Int) : List Value := [w63 a, bl false, pt 1, pt 3, w63 0, sl 5 (2 * q) 0, bl b, w63 i]
abbrev hp8 (N : Nat) (bs : List Int) (x y : Int) (q : Nat) (vs ws fl : List Int) : Heap := [rU N bs, uS x (sl 2 q 1), oI q vs, uS y (sl 4 q 1), oI q ws, oI (2 * q) fl]
--CP r8T (a : Int) (q i : Nat) (N : Nat) (bs : List Int) (x y : Int) (vs ws fl : List Int) (on : List Value → Heap → Out) (out : Exit → List Value → Heap → Out) :: roundK Try.prog ((mkS []).on [(117, true)]) noL Try.f8.ntmps 1 (loopOf Try.f8 0) live8 (st8 a q true ((2 * i : Nat) : Int)) (hp8 N bs x y q vs ws fl) on out
theorem r8T (a : Int) (q i : Nat) (N : Nat) (bs : List Int) (x y : Int) (vs ws fl : List Int) (on : List Value → Heap → Out) (out : Exit → List Value → Heap → Out)
    (w1 : -9223372036854775808 ≤ (↑((2 : Nat) * i) : Int) + (2 : Int) ∧ (↑((2 : Nat) * i) : Int) + (2 : Int) ≤ 9223372036854775807 := by omega)
    (h1 : (↑((2 : Nat) * i) : Int) < (↑((2 : Nat) * q) : Int) := by first | omega | assumption | rfl) : roundK Try.prog ((mkS []).on [(117, true)]) noL Try.f8.ntmps 1 (loopOf Try.f8 0) live8 (st8 a q true ((2 * i : Nat) : Int)) (hp8 N bs x y q vs ws fl) on out =
     (on [Value.int IntKind.i64 a, Value.bool false, Value.pointer (some (Addr.mk (1 : Nat) (0 : Nat) none)), Value.pointer (some (Addr.mk (3 : Nat) (0 : Nat) none)), Value.int IntKind.i64 (0 : Int),
     Value.slice (some (Addr.mk (5 : Nat) (0 : Nat) none)) ((2 : Nat) * q) (0 : Nat), Value.bool true, Value.int IntKind.i64 ((↑((2 : Nat) * i) : Int) + (2 : Int))] [some (Blk.mk false (1 : Nat) [Seg.ints
     IntKind.u8 N bs]), some (Blk.mk true (2 : Nat) [Seg.ints IntKind.u8 (1 : Nat) [x], Seg.vals [Value.slice (some (Addr.mk (2 : Nat) (0 : Nat) none)) q (1 : Nat)]]), some (Blk.mk true (1 : Nat) [Seg.ints
     IntKind.i64 q vs]), some (Blk.mk true (2 : Nat) [Seg.ints IntKind.u8 (1 : Nat) [y], Seg.vals [Value.slice (some (Addr.mk (4 : Nat) (0 : Nat) none)) q (1 : Nat)]]), some (Blk.mk true (1 : Nat)
     [Seg.ints IntKind.i64 q ws]), some (Blk.mk true (1 : Nat) [Seg.ints IntKind.i64 ((2 : Nat) * q) fl])]) :=
  Eq.trans (b :=
     bif decide ((↑((2 : Nat) * i) : Int) < (↑((2 : Nat) * q) : Int)) then on [Value.int IntKind.i64 a, Value.bool false, Value.pointer (some (Addr.mk (1 : Nat) (0 : Nat) none)), Value.pointer (some
     (Addr.mk (3 : Nat) (0 : Nat) none)), Value.int IntKind.i64 (0 : Int), Value.slice (some (Addr.mk (5 : Nat) (0 : Nat) none)) ((2 : Nat) * q) (0 : Nat), Value.bool true, Value.int IntKind.i64
     (IntKind.i64.wrap ((↑((2 : Nat) * i) : Int) + (2 : Int)))] [some (Blk.mk false (1 : Nat) [Seg.ints IntKind.u8 N bs]), some (Blk.mk true (2 : Nat) [Seg.ints IntKind.u8 (1 : Nat) [x], Seg.vals
     [Value.slice (some (Addr.mk (2 : Nat) (0 : Nat) none)) q (1 : Nat)]]), some (Blk.mk true (1 : Nat) [Seg.ints IntKind.i64 q vs]), some (Blk.mk true (2 : Nat) [Seg.ints IntKind.u8 (1 : Nat) [y],
     Seg.vals [Value.slice (some (Addr.mk (4 : Nat) (0 : Nat) none)) q (1 : Nat)]]), some (Blk.mk true (1 : Nat) [Seg.ints IntKind.i64 q ws]), some (Blk.mk true (1 : Nat) [Seg.ints IntKind.i64 ((2 : Nat) *
     q) fl])] else none) (by kernel_rfl) (by simp only [-eq_self, swrap w1.1 w1.2]; exact (go_t (dec_t h1) rfl))
--CFEND
--CP r8F (a : Int) (q i : Nat) (N : Nat) (bs : List Int) (x y : Int) (vs ws fl : List Int) (on : List Value → Heap → Out) (out : Exit → List Value → Heap → Out) :: roundK Try.prog ((mkS []).on [(117, true), (128, false)]) noL Try.f8.ntmps 1 (loopOf Try.f8 0) live8 (st8 a q false ((2 * i : Nat) : Int)) (hp8 N bs x y q vs ws fl) on out
theorem r8F (a : Int) (q i : Nat) (N : Nat) (bs : List Int) (x y : Int) (vs ws fl : List Int) (on : List Value → Heap → Out) (out : Exit → List Value → Heap → Out)
    (w1 : -9223372036854775808 ≤ (↑((2 : Nat) * i) : Int) + (2 : Int) ∧ (↑((2 : Nat) * i) : Int) + (2 : Int) ≤ 9223372036854775807 := by omega)
    (h1 : (↑((2 : Nat) * i) : Int) < (↑((2 : Nat) * q) : Int) := by first | omega | assumption | rfl)
    (h2 : (0 : Int) ≤ (↑((2 : Nat) * i) : Int) := by first | omega | assumption | rfl)
    (h3 : (2 : Nat) * i < (2 : Nat) * q := by first | omega | assumption | rfl)
    (h4 : ¬a ≥ fl.getD ((2 : Nat) * i) (0 : Int) := by first | omega | assumption | rfl) : roundK Try.prog ((mkS []).on [(117, true), (128, false)]) noL Try.f8.ntmps 1 (loopOf Try.f8 0) live8 (st8 a q false ((2 * i : Nat) : Int)) (hp8 N bs x y q vs ws fl) on out =
     (on [Value.int IntKind.i64 a, Value.bool false, Value.pointer (some (Addr.mk (1 : Nat) (0 : Nat) none)), Value.pointer (some (Addr.mk (3 : Nat) (0 : Nat) none)), Value.int IntKind.i64 (0 : Int),
     Value.slice (some (Addr.mk (5 : Nat) (0 : Nat) none)) ((2 : Nat) * q) (0 : Nat), Value.bool false, Value.int IntKind.i64 ((↑((2 : Nat) * i) : Int) + (2 : Int))] [some (Blk.mk false (1 : Nat) [Seg.ints
     IntKind.u8 N bs]), some (Blk.mk true (2 : Nat) [Seg.ints IntKind.u8 (1 : Nat) [x], Seg.vals [Value.slice (some (Addr.mk (2 : Nat) (0 : Nat) none)) q (1 : Nat)]]), some (Blk.mk true (1 : Nat) [Seg.ints
     IntKind.i64 q vs]), some (Blk.mk true (2 : Nat) [Seg.ints IntKind.u8 (1 : Nat) [y], Seg.vals [Value.slice (some (Addr.mk (4 : Nat) (0 : Nat) none)) q (1 : Nat)]]), some (Blk.mk true (1 : Nat)
     [Seg.ints IntKind.i64 q ws]), some (Blk.mk true (1 : Nat) [Seg.ints IntKind.i64 ((2 : Nat) * q) fl])]) :=
  Eq.trans (b :=
     bif decide ((↑((2 : Nat) * i) : Int) < (↑((2 : Nat) * q) : Int)) then bif decide ((0 : Int) ≤ (↑((2 : Nat) * i) : Int)) && decide ((↑((2 : Nat) * i) : Int) < (↑((2 : Nat) * q) : Int)) then bif ((0 :
     Nat) + (↑((2 : Nat) * i) : Int).toNat * (1 : Nat)).blt ((2 : Nat) * q) then bif decide (a ≥ fl.getD ((0 : Nat) + (↑((2 : Nat) * i) : Int).toNat * (1 : Nat)) (0 : Int)) then none else on [Value.int
     IntKind.i64 a, Value.bool false, Value.pointer (some (Addr.mk (1 : Nat) (0 : Nat) none)), Value.pointer (some (Addr.mk (3 : Nat) (0 : Nat) none)), Value.int IntKind.i64 (0 : Int), Value.slice (some
     (Addr.mk (5 : Nat) (0 : Nat) none)) ((2 : Nat) * q) (0 : Nat), Value.bool false, Value.int IntKind.i64 (IntKind.i64.wrap ((↑((2 : Nat) * i) : Int) + (2 : Int)))] [some (Blk.mk false (1 : Nat)
     [Seg.ints IntKind.u8 N bs]), some (Blk.mk true (2 : Nat) [Seg.ints IntKind.u8 (1 : Nat) [x], Seg.vals [Value.slice (some (Addr.mk (2 : Nat) (0 : Nat) none)) q (1 : Nat)]]), some (Blk.mk true (1 : Nat)
     [Seg.ints IntKind.i64 q vs]), some (Blk.mk true (2 : Nat) [Seg.ints IntKind.u8 (1 : Nat) [y], Seg.vals [Value.slice (some (Addr.mk (4 : Nat) (0 : Nat) none)) q (1 : Nat)]]), some (Blk.mk true (1 :
     Nat) [Seg.ints IntKind.i64 q ws]), some (Blk.mk true (1 : Nat) [Seg.ints IntKind.i64 ((2 : Nat) * q) fl])] else none else none else none) (by kernel_rfl) (by simp only [-eq_self, Int.toNat_natCast, Nat.mul_one, Nat.zero_add, swrap w1.1 w1.2]; exact (go_t (dec_t h1) (go_t (and_t (dec_t h2) (dec_t h1)) (go_t (blt_t h3) (go_f (dec_f h4) rfl)))))
--CFEND
--CP r8I (a : Int) (q i : Nat) (N : Nat) (bs : List Int) (x y : Int) (vs ws fl : List Int) (on : List Value → Heap → Out) (out : Exit → List Value → Heap → Out) :: roundK Try.prog ((mkS []).on [(117, true), (128, true)]) noL Try.f8.ntmps 1 (loopOf Try.f8 0) live8 (st8 a q false ((2 * i : Nat) : Int)) (hp8 N bs x y q vs ws fl) on out
theorem r8I (a : Int) (q i : Nat) (N : Nat) (bs : List Int) (x y : Int) (vs ws fl : List Int) (on : List Value → Heap → Out) (out : Exit → List Value → Heap → Out)
    (w1 : -9223372036854775808 ≤ (↑((2 : Nat) * i) : Int) + (1 : Int) ∧ (↑((2 : Nat) * i) : Int) + (1 : Int) ≤ 9223372036854775807 := by omega)
    (w2 : -9223372036854775808 ≤ (0 : Int) - fl.getD ((↑((2 : Nat) * i) : Int) + (1 : Int)).toNat (0 : Int) ∧ (0 : Int) - fl.getD ((↑((2 : Nat) * i) : Int) + (1 : Int)).toNat (0 : Int) ≤ 9223372036854775807 := by omega)
    (w3 : -9223372036854775808 ≤ (fl.getD ((2 : Nat) * i) (0 : Int) + if (0 : Int) - fl.getD ((↑((2 : Nat) * i) : Int) + (1 : Int)).toNat (0 : Int) > fl.getD ((↑((2 : Nat) * i) : Int) + (1 : Int)).toNat (0 : Int) then (0 : Int) - fl.getD ((↑((2 : Nat) * i) : Int) + (1 : Int)).toNat (0 : Int) else fl.getD ((↑((2 : Nat) * i) : Int) + (1 : Int)).toNat (0 : Int)) ∧ (fl.getD ((2 : Nat) * i) (0 : Int) + if (0 : Int) - fl.getD ((↑((2 : Nat) * i) : Int) + (1 : Int)).toNat (0 : Int) > fl.getD ((↑((2 : Nat) * i) : Int) + (1 : Int)).toNat (0 : Int) then (0 : Int) - fl.getD ((↑((2 : Nat) * i) : Int) + (1 : Int)).toNat (0 : Int) else fl.getD ((↑((2 : Nat) * i) : Int) + (1 : Int)).toNat (0 : Int)) ≤ 9223372036854775807 := by omega)
    (w4 : -9223372036854775808 ≤ (↑((2 : Nat) * i) : Int) + (2 : Int) ∧ (↑((2 : Nat) * i) : Int) + (2 : Int) ≤ 9223372036854775807 := by omega)
    (h1 : (↑((2 : Nat) * i) : Int) < (↑((2 : Nat) * q) : Int) := by first | omega | assumption | rfl)
    (h2 : (0 : Int) ≤ (↑((2 : Nat) * i) : Int) := by first | omega | assumption | rfl)
    (h3 : (2 : Nat) * i < (2 : Nat) * q := by first | omega | assumption | rfl)
    (h4 : a ≥ fl.getD ((2 : Nat) * i) (0 : Int) := by first | omega | assumption | rfl)
    (h5 : (0 : Int) ≤ (↑((2 : Nat) * i) : Int) + (1 : Int) := by first | omega | assumption | rfl)
    (h6 : (↑((2 : Nat) * i) : Int) + (1 : Int) < (↑((2 : Nat) * q) : Int) := by first | omega | assumption | rfl)
    (h7 : ((↑((2 : Nat) * i) : Int) + (1 : Int)).toNat < (2 : Nat) * q := by first | omega | assumption | rfl) : roundK Try.prog ((mkS []).on [(117, true), (128, true)]) noL Try.f8.ntmps 1 (loopOf Try.f8 0) live8 (st8 a q false ((2 * i : Nat) : Int)) (hp8 N bs x y q vs ws fl) on out =
     (on [Value.int IntKind.i64 a, Value.bool false, Value.pointer (some (Addr.mk (1 : Nat) (0 : Nat) none)), Value.pointer (some (Addr.mk (3 : Nat) (0 : Nat) none)), Value.int IntKind.i64 (0 : Int),
     Value.slice (some (Addr.mk (5 : Nat) (0 : Nat) none)) ((2 : Nat) * q) (0 : Nat), Value.bool (decide (a < fl.getD ((2 : Nat) * i) (0 : Int) + if (0 : Int) - fl.getD ((↑((2 : Nat) * i) : Int) + (1 :
     Int)).toNat (0 : Int) > fl.getD ((↑((2 : Nat) * i) : Int) + (1 : Int)).toNat (0 : Int) then (0 : Int) - fl.getD ((↑((2 : Nat) * i) : Int) + (1 : Int)).toNat (0 : Int) else fl.getD ((↑((2 : Nat) * i) :
     Int) + (1 : Int)).toNat (0 : Int))), Value.int IntKind.i64 ((↑((2 : Nat) * i) : Int) + (2 : Int))] [some (Blk.mk false (1 : Nat) [Seg.ints IntKind.u8 N bs]), some (Blk.mk true (2 : Nat) [Seg.ints
     IntKind.u8 (1 : Nat) [x], Seg.vals [Value.slice (some (Addr.mk (2 : Nat) (0 : Nat) none)) q (1 : Nat)]]), some (Blk.mk true (1 : Nat) [Seg.ints IntKind.i64 q vs]), some (Blk.mk true (2 : Nat)
     [Seg.ints IntKind.u8 (1 : Nat) [y], Seg.vals [Value.slice (some (Addr.mk (4 : Nat) (0 : Nat) none)) q (1 : Nat)]]), some (Blk.mk true (1 : Nat) [Seg.ints IntKind.i64 q ws]), some (Blk.mk true (1 :
     Nat) [Seg.ints IntKind.i64 ((2 : Nat) * q) fl])]) :=
  Eq.trans (b :=
     bif decide ((↑((2 : Nat) * i) : Int) < (↑((2 : Nat) * q) : Int)) then bif decide ((0 : Int) ≤ (↑((2 : Nat) * i) : Int)) && decide ((↑((2 : Nat) * i) : Int) < (↑((2 : Nat) * q) : Int)) then bif ((0 :
     Nat) + (↑((2 : Nat) * i) : Int).toNat * (1 : Nat)).blt ((2 : Nat) * q) then bif decide (a ≥ fl.getD ((0 : Nat) + (↑((2 : Nat) * i) : Int).toNat * (1 : Nat)) (0 : Int)) then bif decide ((0 : Int) ≤
     (↑((2 : Nat) * i) : Int)) && decide ((↑((2 : Nat) * i) : Int) < (↑((2 : Nat) * q) : Int)) then bif ((0 : Nat) + (↑((2 : Nat) * i) : Int).toNat * (1 : Nat)).blt ((2 : Nat) * q) then bif decide ((0 :
     Int) ≤ IntKind.i64.wrap ((↑((2 : Nat) * i) : Int) + (1 : Int))) && decide (IntKind.i64.wrap ((↑((2 : Nat) * i) : Int) + (1 : Int)) < (↑((2 : Nat) * q) : Int)) then bif ((0 : Nat) + (IntKind.i64.wrap
     ((↑((2 : Nat) * i) : Int) + (1 : Int))).toNat * (1 : Nat)).blt ((2 : Nat) * q) then bif decide ((0 : Int) ≤ IntKind.i64.wrap ((↑((2 : Nat) * i) : Int) + (1 : Int))) && decide (IntKind.i64.wrap ((↑((2
     : Nat) * i) : Int) + (1 : Int)) < (↑((2 : Nat) * q) : Int)) then bif ((0 : Nat) + (IntKind.i64.wrap ((↑((2 : Nat) * i) : Int) + (1 : Int))).toNat * (1 : Nat)).blt ((2 : Nat) * q) then on [Value.int
     IntKind.i64 a, Value.bool false, Value.pointer (some (Addr.mk (1 : Nat) (0 : Nat) none)), Value.pointer (some (Addr.mk (3 : Nat) (0 : Nat) none)), Value.int IntKind.i64 (0 : Int), Value.slice (some
     (Addr.mk (5 : Nat) (0 : Nat) none)) ((2 : Nat) * q) (0 : Nat), Value.bool (decide (a < IntKind.i64.wrap (fl.getD ((0 : Nat) + (↑((2 : Nat) * i) : Int).toNat * (1 : Nat)) (0 : Int) + if
     IntKind.i64.wrap ((0 : Int) - fl.getD ((0 : Nat) + (IntKind.i64.wrap ((↑((2 : Nat) * i) : Int) + (1 : Int))).toNat * (1 : Nat)) (0 : Int)) > fl.getD ((0 : Nat) + (IntKind.i64.wrap ((↑((2 : Nat) * i) :
     Int) + (1 : Int))).toNat * (1 : Nat)) (0 : Int) then IntKind.i64.wrap ((0 : Int) - fl.getD ((0 : Nat) + (IntKind.i64.wrap ((↑((2 : Nat) * i) : Int) + (1 : Int))).toNat * (1 : Nat)) (0 : Int)) else
     fl.getD ((0 : Nat) + (IntKind.i64.wrap ((↑((2 : Nat) * i) : Int) + (1 : Int))).toNat * (1 : Nat)) (0 : Int)))), Value.int IntKind.i64 (IntKind.i64.wrap ((↑((2 : Nat) * i) : Int) + (2 : Int)))] [some
     (Blk.mk false (1 : Nat) [Seg.ints IntKind.u8 N bs]), some (Blk.mk true (2 : Nat) [Seg.ints IntKind.u8 (1 : Nat) [x], Seg.vals [Value.slice (some (Addr.mk (2 : Nat) (0 : Nat) none)) q (1 : Nat)]]),
     some (Blk.mk true (1 : Nat) [Seg.ints IntKind.i64 q vs]), some (Blk.mk true (2 : Nat) [Seg.ints IntKind.u8 (1 : Nat) [y], Seg.vals [Value.slice (some (Addr.mk (4 : Nat) (0 : Nat) none)) q (1 :
     Nat)]]), some (Blk.mk true (1 : Nat) [Seg.ints IntKind.i64 q ws]), some (Blk.mk true (1 : Nat) [Seg.ints IntKind.i64 ((2 : Nat) * q) fl])] else none else none else none else none else none else none
     else none else none else none else none) (by kernel_rfl) (by simp only [-eq_self, Int.toNat_natCast, Nat.mul_one, Nat.zero_add, swrap w1.1 w1.2, swrap w2.1 w2.2, swrap w3.1 w3.2, swrap w4.1 w4.2]; exact (go_t (dec_t h1) (go_t (and_t (dec_t h2) (dec_t h1)) (go_t (blt_t h3) (go_t (dec_t h4) (go_t (and_t (dec_t h2) (dec_t h1)) (go_t (blt_t h3) (go_t (and_t (dec_t h5) (dec_t h6)) (go_t (blt_t h7) (go_t (and_t (dec_t h5) (dec_t h6)) (go_t (blt_t h7) rfl)))))))))))
--CFEND
--CP r8X (a : Int) (b : Bool) (q i : Nat) (N : Nat) (bs : List Int) (x y : Int) (vs ws fl : List Int) (on : List Value → Heap → Out) (out : Exit → List Value → Heap → Out) :: roundK Try.prog ((mkS []).on [(117, false)]) noL Try.f8.ntmps 1 (loopOf Try.f8 0) live8 (st8 a q b ((2 * i : Nat) : Int)) (hp8 N bs x y q vs ws fl) on out
theorem r8X (a : Int) (b : Bool) (q i : Nat) (N : Nat) (bs : List Int) (x y : Int) (vs ws fl : List Int) (on : List Value → Heap → Out) (out : Exit → List Value → Heap → Out)
    (h1 : ¬(↑((2 : Nat) * i) : Int) < (↑((2 : Nat) * q) : Int) := by first | omega | assumption | rfl) : roundK Try.prog ((mkS []).on [(117, false)]) noL Try.f8.ntmps 1 (loopOf Try.f8 0) live8 (st8 a q b ((2 * i : Nat) : Int)) (hp8 N bs x y q vs ws fl) on out =
     (out (Exit.exit (0 : Nat)) [Value.int IntKind.i64 a, Value.bool false, Value.pointer (some (Addr.mk (1 : Nat) (0 : Nat) none)), Value.pointer (some (Addr.mk (3 : Nat) (0 : Nat) none)), Value.int
     IntKind.i64 (0 : Int), Value.slice (some (Addr.mk (5 : Nat) (0 : Nat) none)) ((2 : Nat) * q) (0 : Nat), Value.bool b, Value.int IntKind.i64 (↑((2 : Nat) * i) : Int)] [some (Blk.mk false (1 : Nat)
     [Seg.ints IntKind.u8 N bs]), some (Blk.mk true (2 : Nat) [Seg.ints IntKind.u8 (1 : Nat) [x], Seg.vals [Value.slice (some (Addr.mk (2 : Nat) (0 : Nat) none)) q (1 : Nat)]]), some (Blk.mk true (1 : Nat)
     [Seg.ints IntKind.i64 q vs]), some (Blk.mk true (2 : Nat) [Seg.ints IntKind.u8 (1 : Nat) [y], Seg.vals [Value.slice (some (Addr.mk (4 : Nat) (0 : Nat) none)) q (1 : Nat)]]), some (Blk.mk true (1 :
     Nat) [Seg.ints IntKind.i64 q ws]), some (Blk.mk true (1 : Nat) [Seg.ints IntKind.i64 ((2 : Nat) * q) fl])]) :=
  Eq.trans (by kernel_rfl) (go_f (dec_f h1) rfl)
--CFEND
end Go.Proofs.Yticdglfbgocgmaa.VC
