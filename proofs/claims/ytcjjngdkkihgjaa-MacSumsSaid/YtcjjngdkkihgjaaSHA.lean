/- SHA-256: the document's sum. -/
import Derived.Test.YtcjjngdkkihgjaaSH9
namespace Go.Proofs.Ytcjjngdkkihgjaa.VC
open Go Go.Proofs

abbrev oI (n : Nat) (xs : List Int) : Option Blk := some ⟨true, 1, [.ints .i64 n xs]⟩
def liveR1 : List Nat := [2, 3, 4, 5, 6, 7, 8]
--CP pR0 (n K ch ck p : Nat) (B A H KK : List Int) (on : List Value → Heap → Out) (out : Exit → List Value → Heap → Out) :: roundK Try.prog ((mkS []).on [(29, true)]) noL Try.f35.ntmps 1 (((loops (loopOf Try.f35 0))[0]?).getD .skip) liveR1 [.slice none 0 0, sl 1 K 1, sl 2 8 ch, sl 3 64 ck, w63 p, .slice none 0 0, w63 0] [rU n B, oU K A, oI 8 H, oI 64 KK] on out
theorem pR0 (n K ch ck p : Nat) (B A H KK : List Int) (on : List Value → Heap → Out) (out : Exit → List Value → Heap → Out)
    (w1 : -9223372036854775808 ≤ (↑p : Int) + (0 : Int) ∧ (↑p : Int) + (0 : Int) ≤ 9223372036854775807 := by omega)
    (w2 : -9223372036854775808 ≤ (↑p : Int) + (0 : Int) + (1 : Int) ∧ (↑p : Int) + (0 : Int) + (1 : Int) ≤ 9223372036854775807 := by omega)
    (w3 : -9223372036854775808 ≤ (↑p : Int) + (0 : Int) + (2 : Int) ∧ (↑p : Int) + (0 : Int) + (2 : Int) ≤ 9223372036854775807 := by omega)
    (w4 : -9223372036854775808 ≤ (↑p : Int) + (0 : Int) + (3 : Int) ∧ (↑p : Int) + (0 : Int) + (3 : Int) ≤ 9223372036854775807 := by omega)
    (w5 : -9223372036854775808 ≤ A.getD ((↑p : Int) + (0 : Int)).toNat (0 : Int) ∧ A.getD ((↑p : Int) + (0 : Int)).toNat (0 : Int) ≤ 9223372036854775807 := by omega)
    (w6 : -9223372036854775808 ≤ A.getD ((↑p : Int) + (0 : Int)).toNat (0 : Int) * (256 : Int) ∧ A.getD ((↑p : Int) + (0 : Int)).toNat (0 : Int) * (256 : Int) ≤ 9223372036854775807 := by omega)
    (w7 : -9223372036854775808 ≤ A.getD ((↑p : Int) + (0 : Int) + (1 : Int)).toNat (0 : Int) ∧ A.getD ((↑p : Int) + (0 : Int) + (1 : Int)).toNat (0 : Int) ≤ 9223372036854775807 := by omega)
    (w8 : -9223372036854775808 ≤ A.getD ((↑p : Int) + (0 : Int)).toNat (0 : Int) * (256 : Int) + A.getD ((↑p : Int) + (0 : Int) + (1 : Int)).toNat (0 : Int) ∧ A.getD ((↑p : Int) + (0 : Int)).toNat (0 : Int) * (256 : Int) + A.getD ((↑p : Int) + (0 : Int) + (1 : Int)).toNat (0 : Int) ≤ 9223372036854775807 := by omega)
    (w9 : -9223372036854775808 ≤ (A.getD ((↑p : Int) + (0 : Int)).toNat (0 : Int) * (256 : Int) + A.getD ((↑p : Int) + (0 : Int) + (1 : Int)).toNat (0 : Int)) * (256 : Int) ∧ (A.getD ((↑p : Int) + (0 : Int)).toNat (0 : Int) * (256 : Int) + A.getD ((↑p : Int) + (0 : Int) + (1 : Int)).toNat (0 : Int)) * (256 : Int) ≤ 9223372036854775807 := by omega)
    (w10 : -9223372036854775808 ≤ A.getD ((↑p : Int) + (0 : Int) + (2 : Int)).toNat (0 : Int) ∧ A.getD ((↑p : Int) + (0 : Int) + (2 : Int)).toNat (0 : Int) ≤ 9223372036854775807 := by omega)
    (w11 : -9223372036854775808 ≤ (A.getD ((↑p : Int) + (0 : Int)).toNat (0 : Int) * (256 : Int) + A.getD ((↑p : Int) + (0 : Int) + (1 : Int)).toNat (0 : Int)) * (256 : Int) + A.getD ((↑p : Int) + (0 : Int) + (2 : Int)).toNat (0 : Int) ∧ (A.getD ((↑p : Int) + (0 : Int)).toNat (0 : Int) * (256 : Int) + A.getD ((↑p : Int) + (0 : Int) + (1 : Int)).toNat (0 : Int)) * (256 : Int) + A.getD ((↑p : Int) + (0 : Int) + (2 : Int)).toNat (0 : Int) ≤ 9223372036854775807 := by omega)
    (w12 : -9223372036854775808 ≤ ((A.getD ((↑p : Int) + (0 : Int)).toNat (0 : Int) * (256 : Int) + A.getD ((↑p : Int) + (0 : Int) + (1 : Int)).toNat (0 : Int)) * (256 : Int) + A.getD ((↑p : Int) + (0 : Int) + (2 : Int)).toNat (0 : Int)) * (256 : Int) ∧ ((A.getD ((↑p : Int) + (0 : Int)).toNat (0 : Int) * (256 : Int) + A.getD ((↑p : Int) + (0 : Int) + (1 : Int)).toNat (0 : Int)) * (256 : Int) + A.getD ((↑p : Int) + (0 : Int) + (2 : Int)).toNat (0 : Int)) * (256 : Int) ≤ 9223372036854775807 := by omega)
    (w13 : -9223372036854775808 ≤ A.getD ((↑p : Int) + (0 : Int) + (3 : Int)).toNat (0 : Int) ∧ A.getD ((↑p : Int) + (0 : Int) + (3 : Int)).toNat (0 : Int) ≤ 9223372036854775807 := by omega)
    (w14 : -9223372036854775808 ≤ ((A.getD ((↑p : Int) + (0 : Int)).toNat (0 : Int) * (256 : Int) + A.getD ((↑p : Int) + (0 : Int) + (1 : Int)).toNat (0 : Int)) * (256 : Int) + A.getD ((↑p : Int) + (0 : Int) + (2 : Int)).toNat (0 : Int)) * (256 : Int) + A.getD ((↑p : Int) + (0 : Int) + (3 : Int)).toNat (0 : Int) ∧ ((A.getD ((↑p : Int) + (0 : Int)).toNat (0 : Int) * (256 : Int) + A.getD ((↑p : Int) + (0 : Int) + (1 : Int)).toNat (0 : Int)) * (256 : Int) + A.getD ((↑p : Int) + (0 : Int) + (2 : Int)).toNat (0 : Int)) * (256 : Int) + A.getD ((↑p : Int) + (0 : Int) + (3 : Int)).toNat (0 : Int) ≤ 9223372036854775807 := by omega)
    (h1 : (0 : Int) ≤ (↑p : Int) + (0 : Int) := by first | omega | assumption | rfl)
    (h2 : (↑p : Int) + (0 : Int) < (↑K : Int) := by first | omega | assumption | rfl)
    (h3 : ((↑p : Int) + (0 : Int)).toNat < K := by first | omega | assumption | rfl)
    (h4 : (0 : Int) ≤ (↑p : Int) + (0 : Int) + (1 : Int) := by first | omega | assumption | rfl)
    (h5 : (↑p : Int) + (0 : Int) + (1 : Int) < (↑K : Int) := by first | omega | assumption | rfl)
    (h6 : ((↑p : Int) + (0 : Int) + (1 : Int)).toNat < K := by first | omega | assumption | rfl)
    (h7 : (0 : Int) ≤ (↑p : Int) + (0 : Int) + (2 : Int) := by first | omega | assumption | rfl)
    (h8 : (↑p : Int) + (0 : Int) + (2 : Int) < (↑K : Int) := by first | omega | assumption | rfl)
    (h9 : ((↑p : Int) + (0 : Int) + (2 : Int)).toNat < K := by first | omega | assumption | rfl)
    (h10 : (0 : Int) ≤ (↑p : Int) + (0 : Int) + (3 : Int) := by first | omega | assumption | rfl)
    (h11 : (↑p : Int) + (0 : Int) + (3 : Int) < (↑K : Int) := by first | omega | assumption | rfl)
    (h12 : ((↑p : Int) + (0 : Int) + (3 : Int)).toNat < K := by first | omega | assumption | rfl) : roundK Try.prog ((mkS []).on [(29, true)]) noL Try.f35.ntmps 1 (((loops (loopOf Try.f35 0))[0]?).getD .skip) liveR1 [.slice none 0 0, sl 1 K 1, sl 2 8 ch, sl 3 64 ck, w63 p, .slice none 0 0, w63 0] [rU n B, oU K A, oI 8 H, oI 64 KK] on out =
     (on [Value.slice none (0 : Nat) (0 : Nat), Value.slice (some (Addr.mk (1 : Nat) (0 : Nat) none)) K (1 : Nat), Value.slice (some (Addr.mk (2 : Nat) (0 : Nat) none)) (8 : Nat) ch, Value.slice (some
     (Addr.mk (3 : Nat) (0 : Nat) none)) (64 : Nat) ck, Value.int IntKind.i64 (↑p : Int), Value.slice (some (Addr.mk (4 : Nat) (0 : Nat) none)) (1 : Nat) (1 : Nat), Value.int IntKind.i64 (1 : Int)] [some
     (Blk.mk false (1 : Nat) [Seg.ints IntKind.u8 n B]), some (Blk.mk true (1 : Nat) [Seg.ints IntKind.u8 K A]), some (Blk.mk true (1 : Nat) [Seg.ints IntKind.i64 (8 : Nat) H]), some (Blk.mk true (1 : Nat)
     [Seg.ints IntKind.i64 (64 : Nat) KK]), some (Blk.mk true (1 : Nat) [Seg.ints IntKind.i64 (1 : Nat) [((A.getD ((↑p : Int) + (0 : Int)).toNat (0 : Int) * (256 : Int) + A.getD ((↑p : Int) + (0 : Int) +
     (1 : Int)).toNat (0 : Int)) * (256 : Int) + A.getD ((↑p : Int) + (0 : Int) + (2 : Int)).toNat (0 : Int)) * (256 : Int) + A.getD ((↑p : Int) + (0 : Int) + (3 : Int)).toNat (0 : Int)]])]) :=
  Eq.trans (b :=
     bif decide ((0 : Int) ≤ IntKind.i64.wrap ((↑p : Int) + (0 : Int))) && decide (IntKind.i64.wrap ((↑p : Int) + (0 : Int)) < (↑K : Int)) then bif ((0 : Nat) + (IntKind.i64.wrap ((↑p : Int) + (0 :
     Int))).toNat * (1 : Nat)).blt K then bif decide ((0 : Int) ≤ IntKind.i64.wrap (IntKind.i64.wrap ((↑p : Int) + (0 : Int)) + (1 : Int))) && decide (IntKind.i64.wrap (IntKind.i64.wrap ((↑p : Int) + (0 :
     Int)) + (1 : Int)) < (↑K : Int)) then bif ((0 : Nat) + (IntKind.i64.wrap (IntKind.i64.wrap ((↑p : Int) + (0 : Int)) + (1 : Int))).toNat * (1 : Nat)).blt K then bif decide ((0 : Int) ≤ IntKind.i64.wrap
     (IntKind.i64.wrap ((↑p : Int) + (0 : Int)) + (2 : Int))) && decide (IntKind.i64.wrap (IntKind.i64.wrap ((↑p : Int) + (0 : Int)) + (2 : Int)) < (↑K : Int)) then bif ((0 : Nat) + (IntKind.i64.wrap
     (IntKind.i64.wrap ((↑p : Int) + (0 : Int)) + (2 : Int))).toNat * (1 : Nat)).blt K then bif decide ((0 : Int) ≤ IntKind.i64.wrap (IntKind.i64.wrap ((↑p : Int) + (0 : Int)) + (3 : Int))) && decide
     (IntKind.i64.wrap (IntKind.i64.wrap ((↑p : Int) + (0 : Int)) + (3 : Int)) < (↑K : Int)) then bif ((0 : Nat) + (IntKind.i64.wrap (IntKind.i64.wrap ((↑p : Int) + (0 : Int)) + (3 : Int))).toNat * (1 :
     Nat)).blt K then on [Value.slice none (0 : Nat) (0 : Nat), Value.slice (some (Addr.mk (1 : Nat) (0 : Nat) none)) K (1 : Nat), Value.slice (some (Addr.mk (2 : Nat) (0 : Nat) none)) (8 : Nat) ch,
     Value.slice (some (Addr.mk (3 : Nat) (0 : Nat) none)) (64 : Nat) ck, Value.int IntKind.i64 (↑p : Int), Value.slice (some (Addr.mk (4 : Nat) (0 : Nat) none)) (1 : Nat) (1 : Nat), Value.int IntKind.i64
     (1 : Int)] [some (Blk.mk false (1 : Nat) [Seg.ints IntKind.u8 n B]), some (Blk.mk true (1 : Nat) [Seg.ints IntKind.u8 K A]), some (Blk.mk true (1 : Nat) [Seg.ints IntKind.i64 (8 : Nat) H]), some
     (Blk.mk true (1 : Nat) [Seg.ints IntKind.i64 (64 : Nat) KK]), some (Blk.mk true (1 : Nat) [Seg.ints IntKind.i64 (1 : Nat) [IntKind.i64.wrap (IntKind.i64.wrap (IntKind.i64.wrap (IntKind.i64.wrap
     (IntKind.i64.wrap (IntKind.i64.wrap (IntKind.i64.wrap (A.getD ((0 : Nat) + (IntKind.i64.wrap ((↑p : Int) + (0 : Int))).toNat * (1 : Nat)) (0 : Int)) * (256 : Int)) + IntKind.i64.wrap (A.getD ((0 :
     Nat) + (IntKind.i64.wrap (IntKind.i64.wrap ((↑p : Int) + (0 : Int)) + (1 : Int))).toNat * (1 : Nat)) (0 : Int))) * (256 : Int)) + IntKind.i64.wrap (A.getD ((0 : Nat) + (IntKind.i64.wrap
     (IntKind.i64.wrap ((↑p : Int) + (0 : Int)) + (2 : Int))).toNat * (1 : Nat)) (0 : Int))) * (256 : Int)) + IntKind.i64.wrap (A.getD ((0 : Nat) + (IntKind.i64.wrap (IntKind.i64.wrap ((↑p : Int) + (0 :
     Int)) + (3 : Int))).toNat * (1 : Nat)) (0 : Int)))]])] else none else none else none else none else none else none else none else none) (by kernel_rfl) (by simp only [-eq_self, Nat.mul_one, Nat.zero_add, swrap w1.1 w1.2, swrap w2.1 w2.2, swrap w3.1 w3.2, swrap w4.1 w4.2, swrap w5.1 w5.2, swrap w6.1 w6.2, swrap w7.1 w7.2, swrap w8.1 w8.2, swrap w9.1 w9.2, swrap w10.1 w10.2, swrap w11.1 w11.2, swrap w12.1 w12.2, swrap w13.1 w13.2, swrap w14.1 w14.2]; exact (go_t (and_t (dec_t h1) (dec_t h2)) (go_t (blt_t h3) (go_t (and_t (dec_t h4) (dec_t h5)) (go_t (blt_t h6) (go_t (and_t (dec_t h7) (dec_t h8)) (go_t (blt_t h9) (go_t (and_t (dec_t h10) (dec_t h11)) (go_t (blt_t h12) rfl)))))))))
--CFEND
--CP pR1 (n K ch ck p i : Nat) (B A H KK W : List Int) (on : List Value → Heap → Out) (out : Exit → List Value → Heap → Out) :: roundK Try.prog ((mkS []).on [(29, true)]) noL Try.f35.ntmps 1 (((loops (loopOf Try.f35 0))[0]?).getD .skip) liveR1 [.slice none 0 0, sl 1 K 1, sl 2 8 ch, sl 3 64 ck, w63 p, sl 4 i 1, w63 i] [rU n B, oU K A, oI 8 H, oI 64 KK, oI i W] on out
theorem pR1 (n K ch ck p i : Nat) (B A H KK W : List Int) (on : List Value → Heap → Out) (out : Exit → List Value → Heap → Out)
    (w1 : -9223372036854775808 ≤ (4 : Int) * (↑i : Int) ∧ (4 : Int) * (↑i : Int) ≤ 9223372036854775807 := by omega)
    (w2 : -9223372036854775808 ≤ (↑p : Int) + (4 : Int) * (↑i : Int) ∧ (↑p : Int) + (4 : Int) * (↑i : Int) ≤ 9223372036854775807 := by omega)
    (w3 : -9223372036854775808 ≤ (↑p : Int) + (4 : Int) * (↑i : Int) + (1 : Int) ∧ (↑p : Int) + (4 : Int) * (↑i : Int) + (1 : Int) ≤ 9223372036854775807 := by omega)
    (w4 : -9223372036854775808 ≤ (↑p : Int) + (4 : Int) * (↑i : Int) + (2 : Int) ∧ (↑p : Int) + (4 : Int) * (↑i : Int) + (2 : Int) ≤ 9223372036854775807 := by omega)
    (w5 : -9223372036854775808 ≤ (↑p : Int) + (4 : Int) * (↑i : Int) + (3 : Int) ∧ (↑p : Int) + (4 : Int) * (↑i : Int) + (3 : Int) ≤ 9223372036854775807 := by omega)
    (w6 : -9223372036854775808 ≤ (↑i : Int) + (1 : Int) ∧ (↑i : Int) + (1 : Int) ≤ 9223372036854775807 := by omega)
    (w7 : -9223372036854775808 ≤ A.getD ((↑p : Int) + (4 : Int) * (↑i : Int)).toNat (0 : Int) ∧ A.getD ((↑p : Int) + (4 : Int) * (↑i : Int)).toNat (0 : Int) ≤ 9223372036854775807 := by omega)
    (w8 : -9223372036854775808 ≤ A.getD ((↑p : Int) + (4 : Int) * (↑i : Int)).toNat (0 : Int) * (256 : Int) ∧ A.getD ((↑p : Int) + (4 : Int) * (↑i : Int)).toNat (0 : Int) * (256 : Int) ≤ 9223372036854775807 := by omega)
    (w9 : -9223372036854775808 ≤ A.getD ((↑p : Int) + (4 : Int) * (↑i : Int) + (1 : Int)).toNat (0 : Int) ∧ A.getD ((↑p : Int) + (4 : Int) * (↑i : Int) + (1 : Int)).toNat (0 : Int) ≤ 9223372036854775807 := by omega)
    (w10 : -9223372036854775808 ≤ A.getD ((↑p : Int) + (4 : Int) * (↑i : Int)).toNat (0 : Int) * (256 : Int) + A.getD ((↑p : Int) + (4 : Int) * (↑i : Int) + (1 : Int)).toNat (0 : Int) ∧ A.getD ((↑p : Int) + (4 : Int) * (↑i : Int)).toNat (0 : Int) * (256 : Int) + A.getD ((↑p : Int) + (4 : Int) * (↑i : Int) + (1 : Int)).toNat (0 : Int) ≤ 9223372036854775807 := by omega)
    (w11 : -9223372036854775808 ≤ (A.getD ((↑p : Int) + (4 : Int) * (↑i : Int)).toNat (0 : Int) * (256 : Int) + A.getD ((↑p : Int) + (4 : Int) * (↑i : Int) + (1 : Int)).toNat (0 : Int)) * (256 : Int) ∧ (A.getD ((↑p : Int) + (4 : Int) * (↑i : Int)).toNat (0 : Int) * (256 : Int) + A.getD ((↑p : Int) + (4 : Int) * (↑i : Int) + (1 : Int)).toNat (0 : Int)) * (256 : Int) ≤ 9223372036854775807 := by omega)
    (w12 : -9223372036854775808 ≤ A.getD ((↑p : Int) + (4 : Int) * (↑i : Int) + (2 : Int)).toNat (0 : Int) ∧ A.getD ((↑p : Int) + (4 : Int) * (↑i : Int) + (2 : Int)).toNat (0 : Int) ≤ 9223372036854775807 := by omega)
    (w13 : -9223372036854775808 ≤ (A.getD ((↑p : Int) + (4 : Int) * (↑i : Int)).toNat (0 : Int) * (256 : Int) + A.getD ((↑p : Int) + (4 : Int) * (↑i : Int) + (1 : Int)).toNat (0 : Int)) * (256 : Int) + A.getD ((↑p : Int) + (4 : Int) * (↑i : Int) + (2 : Int)).toNat (0 : Int) ∧ (A.getD ((↑p : Int) + (4 : Int) * (↑i : Int)).toNat (0 : Int) * (256 : Int) + A.getD ((↑p : Int) + (4 : Int) * (↑i : Int) + (1 : Int)).toNat (0 : Int)) * (256 : Int) + A.getD ((↑p : Int) + (4 : Int) * (↑i : Int) + (2 : Int)).toNat (0 : Int) ≤ 9223372036854775807 := by omega)
    (w14 : -9223372036854775808 ≤ ((A.getD ((↑p : Int) + (4 : Int) * (↑i : Int)).toNat (0 : Int) * (256 : Int) + A.getD ((↑p : Int) + (4 : Int) * (↑i : Int) + (1 : Int)).toNat (0 : Int)) * (256 : Int) + A.getD ((↑p : Int) + (4 : Int) * (↑i : Int) + (2 : Int)).toNat (0 : Int)) * (256 : Int) ∧ ((A.getD ((↑p : Int) + (4 : Int) * (↑i : Int)).toNat (0 : Int) * (256 : Int) + A.getD ((↑p : Int) + (4 : Int) * (↑i : Int) + (1 : Int)).toNat (0 : Int)) * (256 : Int) + A.getD ((↑p : Int) + (4 : Int) * (↑i : Int) + (2 : Int)).toNat (0 : Int)) * (256 : Int) ≤ 9223372036854775807 := by omega)
    (w15 : -9223372036854775808 ≤ A.getD ((↑p : Int) + (4 : Int) * (↑i : Int) + (3 : Int)).toNat (0 : Int) ∧ A.getD ((↑p : Int) + (4 : Int) * (↑i : Int) + (3 : Int)).toNat (0 : Int) ≤ 9223372036854775807 := by omega)
    (w16 : -9223372036854775808 ≤ ((A.getD ((↑p : Int) + (4 : Int) * (↑i : Int)).toNat (0 : Int) * (256 : Int) + A.getD ((↑p : Int) + (4 : Int) * (↑i : Int) + (1 : Int)).toNat (0 : Int)) * (256 : Int) + A.getD ((↑p : Int) + (4 : Int) * (↑i : Int) + (2 : Int)).toNat (0 : Int)) * (256 : Int) + A.getD ((↑p : Int) + (4 : Int) * (↑i : Int) + (3 : Int)).toNat (0 : Int) ∧ ((A.getD ((↑p : Int) + (4 : Int) * (↑i : Int)).toNat (0 : Int) * (256 : Int) + A.getD ((↑p : Int) + (4 : Int) * (↑i : Int) + (1 : Int)).toNat (0 : Int)) * (256 : Int) + A.getD ((↑p : Int) + (4 : Int) * (↑i : Int) + (2 : Int)).toNat (0 : Int)) * (256 : Int) + A.getD ((↑p : Int) + (4 : Int) * (↑i : Int) + (3 : Int)).toNat (0 : Int) ≤ 9223372036854775807 := by omega)
    (h1 : (↑i : Int) < (16 : Int) := by first | omega | assumption | rfl)
    (h2 : (0 : Int) ≤ (↑p : Int) + (4 : Int) * (↑i : Int) := by first | omega | assumption | rfl)
    (h3 : (↑p : Int) + (4 : Int) * (↑i : Int) < (↑K : Int) := by first | omega | assumption | rfl)
    (h4 : ((↑p : Int) + (4 : Int) * (↑i : Int)).toNat < K := by first | omega | assumption | rfl)
    (h5 : (0 : Int) ≤ (↑p : Int) + (4 : Int) * (↑i : Int) + (1 : Int) := by first | omega | assumption | rfl)
    (h6 : (↑p : Int) + (4 : Int) * (↑i : Int) + (1 : Int) < (↑K : Int) := by first | omega | assumption | rfl)
    (h7 : ((↑p : Int) + (4 : Int) * (↑i : Int) + (1 : Int)).toNat < K := by first | omega | assumption | rfl)
    (h8 : (0 : Int) ≤ (↑p : Int) + (4 : Int) * (↑i : Int) + (2 : Int) := by first | omega | assumption | rfl)
    (h9 : (↑p : Int) + (4 : Int) * (↑i : Int) + (2 : Int) < (↑K : Int) := by first | omega | assumption | rfl)
    (h10 : ((↑p : Int) + (4 : Int) * (↑i : Int) + (2 : Int)).toNat < K := by first | omega | assumption | rfl)
    (h11 : (0 : Int) ≤ (↑p : Int) + (4 : Int) * (↑i : Int) + (3 : Int) := by first | omega | assumption | rfl)
    (h12 : (↑p : Int) + (4 : Int) * (↑i : Int) + (3 : Int) < (↑K : Int) := by first | omega | assumption | rfl)
    (h13 : ((↑p : Int) + (4 : Int) * (↑i : Int) + (3 : Int)).toNat < K := by first | omega | assumption | rfl)
    (h14 : i ≤ i := by first | omega | assumption | rfl)
    (h15 : (i + (1 : Nat)) * (8 : Nat) ≤ (140737488355328 : Nat) := by first | omega | assumption | rfl)
    (h16 : i + (1 : Nat) ≤ (4611686018427387904 : Nat) := by first | omega | assumption | rfl)
    (h17 : i = i := by first | omega | assumption | rfl) : roundK Try.prog ((mkS []).on [(29, true)]) noL Try.f35.ntmps 1 (((loops (loopOf Try.f35 0))[0]?).getD .skip) liveR1 [.slice none 0 0, sl 1 K 1, sl 2 8 ch, sl 3 64 ck, w63 p, sl 4 i 1, w63 i] [rU n B, oU K A, oI 8 H, oI 64 KK, oI i W] on out =
     (on [Value.slice none (0 : Nat) (0 : Nat), Value.slice (some (Addr.mk (1 : Nat) (0 : Nat) none)) K (1 : Nat), Value.slice (some (Addr.mk (2 : Nat) (0 : Nat) none)) (8 : Nat) ch, Value.slice (some
     (Addr.mk (3 : Nat) (0 : Nat) none)) (64 : Nat) ck, Value.int IntKind.i64 (↑p : Int), Value.slice (some (Addr.mk (4 : Nat) (0 : Nat) none)) (i + (1 : Nat)) (1 : Nat), Value.int IntKind.i64 ((↑i : Int)
     + (1 : Int))] [some (Blk.mk false (1 : Nat) [Seg.ints IntKind.u8 n B]), some (Blk.mk true (1 : Nat) [Seg.ints IntKind.u8 K A]), some (Blk.mk true (1 : Nat) [Seg.ints IntKind.i64 (8 : Nat) H]), some
     (Blk.mk true (1 : Nat) [Seg.ints IntKind.i64 (64 : Nat) KK]), some (Blk.mk true (1 : Nat) [Seg.ints IntKind.i64 (i + (1 : Nat)) (List.take i W ++ [((A.getD ((↑p : Int) + (4 : Int) * (↑i : Int)).toNat
     (0 : Int) * (256 : Int) + A.getD ((↑p : Int) + (4 : Int) * (↑i : Int) + (1 : Int)).toNat (0 : Int)) * (256 : Int) + A.getD ((↑p : Int) + (4 : Int) * (↑i : Int) + (2 : Int)).toNat (0 : Int)) * (256 :
     Int) + A.getD ((↑p : Int) + (4 : Int) * (↑i : Int) + (3 : Int)).toNat (0 : Int)])])]) :=
  Eq.trans (b :=
     bif decide ((↑i : Int) < (16 : Int)) then bif decide ((0 : Int) ≤ IntKind.i64.wrap ((↑p : Int) + IntKind.i64.wrap ((4 : Int) * (↑i : Int)))) && decide (IntKind.i64.wrap ((↑p : Int) + IntKind.i64.wrap
     ((4 : Int) * (↑i : Int))) < (↑K : Int)) then bif ((0 : Nat) + (IntKind.i64.wrap ((↑p : Int) + IntKind.i64.wrap ((4 : Int) * (↑i : Int)))).toNat * (1 : Nat)).blt K then bif decide ((0 : Int) ≤
     IntKind.i64.wrap (IntKind.i64.wrap ((↑p : Int) + IntKind.i64.wrap ((4 : Int) * (↑i : Int))) + (1 : Int))) && decide (IntKind.i64.wrap (IntKind.i64.wrap ((↑p : Int) + IntKind.i64.wrap ((4 : Int) * (↑i
     : Int))) + (1 : Int)) < (↑K : Int)) then bif ((0 : Nat) + (IntKind.i64.wrap (IntKind.i64.wrap ((↑p : Int) + IntKind.i64.wrap ((4 : Int) * (↑i : Int))) + (1 : Int))).toNat * (1 : Nat)).blt K then bif
     decide ((0 : Int) ≤ IntKind.i64.wrap (IntKind.i64.wrap ((↑p : Int) + IntKind.i64.wrap ((4 : Int) * (↑i : Int))) + (2 : Int))) && decide (IntKind.i64.wrap (IntKind.i64.wrap ((↑p : Int) +
     IntKind.i64.wrap ((4 : Int) * (↑i : Int))) + (2 : Int)) < (↑K : Int)) then bif ((0 : Nat) + (IntKind.i64.wrap (IntKind.i64.wrap ((↑p : Int) + IntKind.i64.wrap ((4 : Int) * (↑i : Int))) + (2 :
     Int))).toNat * (1 : Nat)).blt K then bif decide ((0 : Int) ≤ IntKind.i64.wrap (IntKind.i64.wrap ((↑p : Int) + IntKind.i64.wrap ((4 : Int) * (↑i : Int))) + (3 : Int))) && decide (IntKind.i64.wrap
     (IntKind.i64.wrap ((↑p : Int) + IntKind.i64.wrap ((4 : Int) * (↑i : Int))) + (3 : Int)) < (↑K : Int)) then bif ((0 : Nat) + (IntKind.i64.wrap (IntKind.i64.wrap ((↑p : Int) + IntKind.i64.wrap ((4 :
     Int) * (↑i : Int))) + (3 : Int))).toNat * (1 : Nat)).blt K then bif (i * (1 : Nat)).ble i then bif decide ((i + (1 : Nat)) * (8 : Nat) ≤ (140737488355328 : Nat)) && (i + (1 : Nat)).ble (OfNat.ofNat
     (4611686018427387904 : Nat)) then bif ((0 : Nat) + i * (1 : Nat)).beq i && true then on [Value.slice none (0 : Nat) (0 : Nat), Value.slice (some (Addr.mk (1 : Nat) (0 : Nat) none)) K (1 : Nat),
     Value.slice (some (Addr.mk (2 : Nat) (0 : Nat) none)) (8 : Nat) ch, Value.slice (some (Addr.mk (3 : Nat) (0 : Nat) none)) (64 : Nat) ck, Value.int IntKind.i64 (↑p : Int), Value.slice (some (Addr.mk (4
     : Nat) (0 : Nat) none)) (i + (1 : Nat)) (1 : Nat), Value.int IntKind.i64 (IntKind.i64.wrap ((↑i : Int) + (1 : Int)))] [some (Blk.mk false (1 : Nat) [Seg.ints IntKind.u8 n B]), some (Blk.mk true (1 :
     Nat) [Seg.ints IntKind.u8 K A]), some (Blk.mk true (1 : Nat) [Seg.ints IntKind.i64 (8 : Nat) H]), some (Blk.mk true (1 : Nat) [Seg.ints IntKind.i64 (64 : Nat) KK]), some (Blk.mk true (1 : Nat)
     [Seg.ints IntKind.i64 (i * (1 : Nat) + (1 : Nat)) (List.take (i * (1 : Nat)) W ++ [IntKind.i64.wrap (IntKind.i64.wrap (IntKind.i64.wrap (IntKind.i64.wrap (IntKind.i64.wrap (IntKind.i64.wrap
     (IntKind.i64.wrap (A.getD ((0 : Nat) + (IntKind.i64.wrap ((↑p : Int) + IntKind.i64.wrap ((4 : Int) * (↑i : Int)))).toNat * (1 : Nat)) (0 : Int)) * (256 : Int)) + IntKind.i64.wrap (A.getD ((0 : Nat) +
     (IntKind.i64.wrap (IntKind.i64.wrap ((↑p : Int) + IntKind.i64.wrap ((4 : Int) * (↑i : Int))) + (1 : Int))).toNat * (1 : Nat)) (0 : Int))) * (256 : Int)) + IntKind.i64.wrap (A.getD ((0 : Nat) +
     (IntKind.i64.wrap (IntKind.i64.wrap ((↑p : Int) + IntKind.i64.wrap ((4 : Int) * (↑i : Int))) + (2 : Int))).toNat * (1 : Nat)) (0 : Int))) * (256 : Int)) + IntKind.i64.wrap (A.getD ((0 : Nat) +
     (IntKind.i64.wrap (IntKind.i64.wrap ((↑p : Int) + IntKind.i64.wrap ((4 : Int) * (↑i : Int))) + (3 : Int))).toNat * (1 : Nat)) (0 : Int)))])])] else none else none else none else none else none else
     none else none else none else none else none else none else none) (by kernel_rfl) (by simp only [-eq_self, Nat.mul_one, Nat.zero_add, swrap w1.1 w1.2, swrap w2.1 w2.2, swrap w3.1 w3.2, swrap w4.1 w4.2, swrap w5.1 w5.2, swrap w6.1 w6.2, swrap w7.1 w7.2, swrap w8.1 w8.2, swrap w9.1 w9.2, swrap w10.1 w10.2, swrap w11.1 w11.2, swrap w12.1 w12.2, swrap w13.1 w13.2, swrap w14.1 w14.2, swrap w15.1 w15.2, swrap w16.1 w16.2]; exact (go_t (dec_t h1) (go_t (and_t (dec_t h2) (dec_t h3)) (go_t (blt_t h4) (go_t (and_t (dec_t h5) (dec_t h6)) (go_t (blt_t h7) (go_t (and_t (dec_t h8) (dec_t h9)) (go_t (blt_t h10) (go_t (and_t (dec_t h11) (dec_t h12)) (go_t (blt_t h13) (go_t (ble_t h14) (go_t (and_t (dec_t h15) (ble_t h16)) (go_t (and_t (beq_t h17) rfl) rfl)))))))))))))
--CFEND
--CP pR1x (n K ch ck p : Nat) (B A H KK W : List Int) (on : List Value → Heap → Out) (out : Exit → List Value → Heap → Out) :: roundK Try.prog ((mkS []).on [(29, false)]) noL Try.f35.ntmps 1 (((loops (loopOf Try.f35 0))[0]?).getD .skip) liveR1 [.slice none 0 0, sl 1 K 1, sl 2 8 ch, sl 3 64 ck, w63 p, sl 4 16 1, w63 16] [rU n B, oU K A, oI 8 H, oI 64 KK, oI 16 W] on out
theorem pR1x (n K ch ck p : Nat) (B A H KK W : List Int) (on : List Value → Heap → Out) (out : Exit → List Value → Heap → Out) : roundK Try.prog ((mkS []).on [(29, false)]) noL Try.f35.ntmps 1 (((loops (loopOf Try.f35 0))[0]?).getD .skip) liveR1 [.slice none 0 0, sl 1 K 1, sl 2 8 ch, sl 3 64 ck, w63 p, sl 4 16 1, w63 16] [rU n B, oU K A, oI 8 H, oI 64 KK, oI 16 W] on out =
     (out (Exit.exit (2 : Nat)) [Value.slice none (0 : Nat) (0 : Nat), Value.slice (some (Addr.mk (1 : Nat) (0 : Nat) none)) K (1 : Nat), Value.slice (some (Addr.mk (2 : Nat) (0 : Nat) none)) (8 : Nat) ch,
     Value.slice (some (Addr.mk (3 : Nat) (0 : Nat) none)) (64 : Nat) ck, Value.int IntKind.i64 (↑p : Int), Value.slice (some (Addr.mk (4 : Nat) (0 : Nat) none)) (16 : Nat) (1 : Nat), Value.int IntKind.i64
     (16 : Int)] [some (Blk.mk false (1 : Nat) [Seg.ints IntKind.u8 n B]), some (Blk.mk true (1 : Nat) [Seg.ints IntKind.u8 K A]), some (Blk.mk true (1 : Nat) [Seg.ints IntKind.i64 (8 : Nat) H]), some
     (Blk.mk true (1 : Nat) [Seg.ints IntKind.i64 (64 : Nat) KK]), some (Blk.mk true (1 : Nat) [Seg.ints IntKind.i64 (16 : Nat) W])]) :=
  Eq.trans (by kernel_rfl) rfl
--CFEND
def liveR2 : List Nat := [2, 3, 4, 5, 6, 7, 10]
noncomputable def SRf : Spec := mkS [(76, false, FThr), (77, false, FCho), (78, false, FMost)]
theorem SRf_ok : SpecOK Try.prog SRf := mkS_cons okThr (mkS_cons okCho (mkS_cons okMost (mkS_nil _)))
--CP pR2 (n K ch ck p i : Nat) (B A H KK W : List Int) (on : List Value → Heap → Out) (out : Exit → List Value → Heap → Out) :: roundK Try.prog (SRf.on [(69, true)]) noL Try.f35.ntmps 1 (((loops (loopOf Try.f35 0))[1]?).getD .skip) liveR2 [.slice none 0 0, sl 1 K 1, sl 2 8 ch, sl 3 64 ck, w63 p, sl 4 i 1, w63 i] [rU n B, oU K A, oI 8 H, oI 64 KK, oI i W] on out
theorem pR2 (n K ch ck p i : Nat) (B A H KK W : List Int) (on : List Value → Heap → Out) (out : Exit → List Value → Heap → Out)
    (w1 : -9223372036854775808 ≤ (↑i : Int) - (2 : Int) ∧ (↑i : Int) - (2 : Int) ≤ 9223372036854775807 := by omega)
    (w2 : -9223372036854775808 ≤ (↑i : Int) - (7 : Int) ∧ (↑i : Int) - (7 : Int) ≤ 9223372036854775807 := by omega)
    (w3 : -9223372036854775808 ≤ (↑i : Int) - (15 : Int) ∧ (↑i : Int) - (15 : Int) ≤ 9223372036854775807 := by omega)
    (w4 : -9223372036854775808 ≤ (↑i : Int) - (16 : Int) ∧ (↑i : Int) - (16 : Int) ≤ 9223372036854775807 := by omega)
    (w5 : -9223372036854775808 ≤ (↑i : Int) + (1 : Int) ∧ (↑i : Int) + (1 : Int) ≤ 9223372036854775807 := by omega)
    (w6 : -9223372036854775808 ≤ thr (W.getD ((↑i : Int) - (2 : Int)).toNat (0 : Int)) (17 : Nat) (19 : Nat) (10 : Nat) true + W.getD ((↑i : Int) - (7 : Int)).toNat (0 : Int) ∧ thr (W.getD ((↑i : Int) - (2 : Int)).toNat (0 : Int)) (17 : Nat) (19 : Nat) (10 : Nat) true + W.getD ((↑i : Int) - (7 : Int)).toNat (0 : Int) ≤ 9223372036854775807 := by omega)
    (w7 : -9223372036854775808 ≤ thr (W.getD ((↑i : Int) - (2 : Int)).toNat (0 : Int)) (17 : Nat) (19 : Nat) (10 : Nat) true + W.getD ((↑i : Int) - (7 : Int)).toNat (0 : Int) + thr (W.getD ((↑i : Int) - (15 : Int)).toNat (0 : Int)) (7 : Nat) (18 : Nat) (3 : Nat) true ∧ thr (W.getD ((↑i : Int) - (2 : Int)).toNat (0 : Int)) (17 : Nat) (19 : Nat) (10 : Nat) true + W.getD ((↑i : Int) - (7 : Int)).toNat (0 : Int) + thr (W.getD ((↑i : Int) - (15 : Int)).toNat (0 : Int)) (7 : Nat) (18 : Nat) (3 : Nat) true ≤ 9223372036854775807 := by omega)
    (w8 : -9223372036854775808 ≤ thr (W.getD ((↑i : Int) - (2 : Int)).toNat (0 : Int)) (17 : Nat) (19 : Nat) (10 : Nat) true + W.getD ((↑i : Int) - (7 : Int)).toNat (0 : Int) + thr (W.getD ((↑i : Int) - (15 : Int)).toNat (0 : Int)) (7 : Nat) (18 : Nat) (3 : Nat) true + W.getD ((↑i : Int) - (16 : Int)).toNat (0 : Int) ∧ thr (W.getD ((↑i : Int) - (2 : Int)).toNat (0 : Int)) (17 : Nat) (19 : Nat) (10 : Nat) true + W.getD ((↑i : Int) - (7 : Int)).toNat (0 : Int) + thr (W.getD ((↑i : Int) - (15 : Int)).toNat (0 : Int)) (7 : Nat) (18 : Nat) (3 : Nat) true + W.getD ((↑i : Int) - (16 : Int)).toNat (0 : Int) ≤ 9223372036854775807 := by omega)
    (h1 : (↑i : Int) < (64 : Int) := by first | omega | assumption | rfl)
    (h2 : (0 : Int) ≤ (↑i : Int) - (2 : Int) := by first | omega | assumption | rfl)
    (h3 : (↑i : Int) - (2 : Int) < (↑i : Int) := by first | omega | assumption | rfl)
    (h4 : ((↑i : Int) - (2 : Int)).toNat < i := by first | omega | assumption | rfl)
    (h5 : W32 (W.getD ((↑i : Int) - (2 : Int)).toNat (0 : Int)) ∧ (1 : Int) ≤ (17 : Int) ∧ (17 : Int) ≤ (31 : Int) ∧ (1 : Int) ≤ (19 : Int) ∧ (19 : Int) ≤ (31 : Int) ∧ (1 : Int) ≤ (10 : Int) ∧ (10 : Int) ≤ (31 : Int) := by first | omega | assumption | rfl | ((repeat' with_reducible apply And.intro) <;> first | rfl | assumption | omega))
    (h6 : (0 : Int) ≤ (↑i : Int) - (7 : Int) := by first | omega | assumption | rfl)
    (h7 : (↑i : Int) - (7 : Int) < (↑i : Int) := by first | omega | assumption | rfl)
    (h8 : ((↑i : Int) - (7 : Int)).toNat < i := by first | omega | assumption | rfl)
    (h9 : (0 : Int) ≤ (↑i : Int) - (15 : Int) := by first | omega | assumption | rfl)
    (h10 : (↑i : Int) - (15 : Int) < (↑i : Int) := by first | omega | assumption | rfl)
    (h11 : ((↑i : Int) - (15 : Int)).toNat < i := by first | omega | assumption | rfl)
    (h12 : W32 (W.getD ((↑i : Int) - (15 : Int)).toNat (0 : Int)) ∧ (1 : Int) ≤ (7 : Int) ∧ (7 : Int) ≤ (31 : Int) ∧ (1 : Int) ≤ (18 : Int) ∧ (18 : Int) ≤ (31 : Int) ∧ (1 : Int) ≤ (3 : Int) ∧ (3 : Int) ≤ (31 : Int) := by first | omega | assumption | rfl | ((repeat' with_reducible apply And.intro) <;> first | rfl | assumption | omega))
    (h13 : (0 : Int) ≤ (↑i : Int) - (16 : Int) := by first | omega | assumption | rfl)
    (h14 : (↑i : Int) - (16 : Int) < (↑i : Int) := by first | omega | assumption | rfl)
    (h15 : ((↑i : Int) - (16 : Int)).toNat < i := by first | omega | assumption | rfl)
    (h16 : i ≤ i := by first | omega | assumption | rfl)
    (h17 : (i + (1 : Nat)) * (8 : Nat) ≤ (140737488355328 : Nat) := by first | omega | assumption | rfl)
    (h18 : i + (1 : Nat) ≤ (4611686018427387904 : Nat) := by first | omega | assumption | rfl)
    (h19 : i = i := by first | omega | assumption | rfl) : roundK Try.prog (SRf.on [(69, true)]) noL Try.f35.ntmps 1 (((loops (loopOf Try.f35 0))[1]?).getD .skip) liveR2 [.slice none 0 0, sl 1 K 1, sl 2 8 ch, sl 3 64 ck, w63 p, sl 4 i 1, w63 i] [rU n B, oU K A, oI 8 H, oI 64 KK, oI i W] on out =
     (on [Value.slice none (0 : Nat) (0 : Nat), Value.slice (some (Addr.mk (1 : Nat) (0 : Nat) none)) K (1 : Nat), Value.slice (some (Addr.mk (2 : Nat) (0 : Nat) none)) (8 : Nat) ch, Value.slice (some
     (Addr.mk (3 : Nat) (0 : Nat) none)) (64 : Nat) ck, Value.int IntKind.i64 (↑p : Int), Value.slice (some (Addr.mk (4 : Nat) (0 : Nat) none)) (i + (1 : Nat)) (1 : Nat), Value.int IntKind.i64 ((↑i : Int)
     + (1 : Int))] [some (Blk.mk false (1 : Nat) [Seg.ints IntKind.u8 n B]), some (Blk.mk true (1 : Nat) [Seg.ints IntKind.u8 K A]), some (Blk.mk true (1 : Nat) [Seg.ints IntKind.i64 (8 : Nat) H]), some
     (Blk.mk true (1 : Nat) [Seg.ints IntKind.i64 (64 : Nat) KK]), some (Blk.mk true (1 : Nat) [Seg.ints IntKind.i64 (i + (1 : Nat)) (List.take i W ++ [(thr (W.getD ((↑i : Int) - (2 : Int)).toNat (0 :
     Int)) (17 : Nat) (19 : Nat) (10 : Nat) true + W.getD ((↑i : Int) - (7 : Int)).toNat (0 : Int) + thr (W.getD ((↑i : Int) - (15 : Int)).toNat (0 : Int)) (7 : Nat) (18 : Nat) (3 : Nat) true + W.getD ((↑i
     : Int) - (16 : Int)).toNat (0 : Int)).tmod (4294967296 : Int)])])]) :=
  Eq.trans (b :=
     bif decide ((↑i : Int) < (64 : Int)) then bif decide ((0 : Int) ≤ IntKind.i64.wrap ((↑i : Int) - (2 : Int))) && decide (IntKind.i64.wrap ((↑i : Int) - (2 : Int)) < (↑i : Int)) then bif ((0 : Nat) +
     (IntKind.i64.wrap ((↑i : Int) - (2 : Int))).toNat * (1 : Nat)).blt i then bif chk (W32 (W.getD ((0 : Nat) + (IntKind.i64.wrap ((↑i : Int) - (2 : Int))).toNat * (1 : Nat)) (0 : Int)) ∧ (1 : Int) ≤ (17
     : Int) ∧ (17 : Int) ≤ (31 : Int) ∧ (1 : Int) ≤ (19 : Int) ∧ (19 : Int) ≤ (31 : Int) ∧ (1 : Int) ≤ (10 : Int) ∧ (10 : Int) ≤ (31 : Int)) then bif decide ((0 : Int) ≤ IntKind.i64.wrap ((↑i : Int) - (7 :
     Int))) && decide (IntKind.i64.wrap ((↑i : Int) - (7 : Int)) < (↑i : Int)) then bif ((0 : Nat) + (IntKind.i64.wrap ((↑i : Int) - (7 : Int))).toNat * (1 : Nat)).blt i then bif decide ((0 : Int) ≤
     IntKind.i64.wrap ((↑i : Int) - (15 : Int))) && decide (IntKind.i64.wrap ((↑i : Int) - (15 : Int)) < (↑i : Int)) then bif ((0 : Nat) + (IntKind.i64.wrap ((↑i : Int) - (15 : Int))).toNat * (1 :
     Nat)).blt i then bif chk (W32 (W.getD ((0 : Nat) + (IntKind.i64.wrap ((↑i : Int) - (15 : Int))).toNat * (1 : Nat)) (0 : Int)) ∧ (1 : Int) ≤ (7 : Int) ∧ (7 : Int) ≤ (31 : Int) ∧ (1 : Int) ≤ (18 : Int)
     ∧ (18 : Int) ≤ (31 : Int) ∧ (1 : Int) ≤ (3 : Int) ∧ (3 : Int) ≤ (31 : Int)) then bif decide ((0 : Int) ≤ IntKind.i64.wrap ((↑i : Int) - (16 : Int))) && decide (IntKind.i64.wrap ((↑i : Int) - (16 :
     Int)) < (↑i : Int)) then bif ((0 : Nat) + (IntKind.i64.wrap ((↑i : Int) - (16 : Int))).toNat * (1 : Nat)).blt i then bif (i * (1 : Nat)).ble i then bif decide ((i + (1 : Nat)) * (8 : Nat) ≤
     (140737488355328 : Nat)) && (i + (1 : Nat)).ble (OfNat.ofNat (4611686018427387904 : Nat)) then bif ((0 : Nat) + i * (1 : Nat)).beq i && true then on [Value.slice none (0 : Nat) (0 : Nat), Value.slice
     (some (Addr.mk (1 : Nat) (0 : Nat) none)) K (1 : Nat), Value.slice (some (Addr.mk (2 : Nat) (0 : Nat) none)) (8 : Nat) ch, Value.slice (some (Addr.mk (3 : Nat) (0 : Nat) none)) (64 : Nat) ck,
     Value.int IntKind.i64 (↑p : Int), Value.slice (some (Addr.mk (4 : Nat) (0 : Nat) none)) (i + (1 : Nat)) (1 : Nat), Value.int IntKind.i64 (IntKind.i64.wrap ((↑i : Int) + (1 : Int)))] [some (Blk.mk
     false (1 : Nat) [Seg.ints IntKind.u8 n B]), some (Blk.mk true (1 : Nat) [Seg.ints IntKind.u8 K A]), some (Blk.mk true (1 : Nat) [Seg.ints IntKind.i64 (8 : Nat) H]), some (Blk.mk true (1 : Nat)
     [Seg.ints IntKind.i64 (64 : Nat) KK]), some (Blk.mk true (1 : Nat) [Seg.ints IntKind.i64 (i * (1 : Nat) + (1 : Nat)) (List.take (i * (1 : Nat)) W ++ [(IntKind.i64.wrap (IntKind.i64.wrap
     (IntKind.i64.wrap (thr (W.getD ((0 : Nat) + (IntKind.i64.wrap ((↑i : Int) - (2 : Int))).toNat * (1 : Nat)) (0 : Int)) (17 : Nat) (19 : Nat) (10 : Nat) true + W.getD ((0 : Nat) + (IntKind.i64.wrap ((↑i
     : Int) - (7 : Int))).toNat * (1 : Nat)) (0 : Int)) + thr (W.getD ((0 : Nat) + (IntKind.i64.wrap ((↑i : Int) - (15 : Int))).toNat * (1 : Nat)) (0 : Int)) (7 : Nat) (18 : Nat) (3 : Nat) true) + W.getD
     ((0 : Nat) + (IntKind.i64.wrap ((↑i : Int) - (16 : Int))).toNat * (1 : Nat)) (0 : Int))).tmod (4294967296 : Int)])])] else none else none else none else none else none else none else none else none
     else none else none else none else none else none else none) (by kernel_rfl) (by simp only [-eq_self, Nat.mul_one, Nat.zero_add, swrap w1.1 w1.2, swrap w2.1 w2.2, swrap w3.1 w3.2, swrap w4.1 w4.2, swrap w5.1 w5.2, swrap w6.1 w6.2, swrap w7.1 w7.2, swrap w8.1 w8.2]; exact (go_t (dec_t h1) (go_t (and_t (dec_t h2) (dec_t h3)) (go_t (blt_t h4) (go_t (chk_t h5) (go_t (and_t (dec_t h6) (dec_t h7)) (go_t (blt_t h8) (go_t (and_t (dec_t h9) (dec_t h10)) (go_t (blt_t h11) (go_t (chk_t h12) (go_t (and_t (dec_t h13) (dec_t h14)) (go_t (blt_t h15) (go_t (ble_t h16) (go_t (and_t (dec_t h17) (ble_t h18)) (go_t (and_t (beq_t h19) rfl) rfl)))))))))))))))
--CFEND
--CP pR2x (n K ch ck p : Nat) (B A H KK W : List Int) (on : List Value → Heap → Out) (out : Exit → List Value → Heap → Out) :: roundK Try.prog (SRf.on [(69, false)]) noL Try.f35.ntmps 1 (((loops (loopOf Try.f35 0))[1]?).getD .skip) liveR2 [.slice none 0 0, sl 1 K 1, sl 2 8 ch, sl 3 64 ck, w63 p, sl 4 64 1, w63 64] [rU n B, oU K A, oI 8 H, oI 64 KK, oI 64 W] on out
theorem pR2x (n K ch ck p : Nat) (B A H KK W : List Int) (on : List Value → Heap → Out) (out : Exit → List Value → Heap → Out) : roundK Try.prog (SRf.on [(69, false)]) noL Try.f35.ntmps 1 (((loops (loopOf Try.f35 0))[1]?).getD .skip) liveR2 [.slice none 0 0, sl 1 K 1, sl 2 8 ch, sl 3 64 ck, w63 p, sl 4 64 1, w63 64] [rU n B, oU K A, oI 8 H, oI 64 KK, oI 64 W] on out =
     (out (Exit.exit (4 : Nat)) [Value.slice none (0 : Nat) (0 : Nat), Value.slice (some (Addr.mk (1 : Nat) (0 : Nat) none)) K (1 : Nat), Value.slice (some (Addr.mk (2 : Nat) (0 : Nat) none)) (8 : Nat) ch,
     Value.slice (some (Addr.mk (3 : Nat) (0 : Nat) none)) (64 : Nat) ck, Value.int IntKind.i64 (↑p : Int), Value.slice (some (Addr.mk (4 : Nat) (0 : Nat) none)) (64 : Nat) (1 : Nat), Value.int IntKind.i64
     (64 : Int)] [some (Blk.mk false (1 : Nat) [Seg.ints IntKind.u8 n B]), some (Blk.mk true (1 : Nat) [Seg.ints IntKind.u8 K A]), some (Blk.mk true (1 : Nat) [Seg.ints IntKind.i64 (8 : Nat) H]), some
     (Blk.mk true (1 : Nat) [Seg.ints IntKind.i64 (64 : Nat) KK]), some (Blk.mk true (1 : Nat) [Seg.ints IntKind.i64 (64 : Nat) W])]) :=
  Eq.trans (by kernel_rfl) rfl
--CFEND
def liveR3 : List Nat := [2, 3, 4, 5, 6, 7, 11, 12]
--CP pR3 (n K ch ck p i q : Nat) (B A H KK W : List Int) (a b c d e f g h : Int) (on : List Value → Heap → Out) (out : Exit → List Value → Heap → Out) :: roundK Try.prog (SRf.on [(105, true)]) noL Try.f35.ntmps 1 (((loops (loopOf Try.f35 0))[2]?).getD .skip) liveR3 [.slice none 0 0, sl 1 K 1, sl 2 8 ch, sl 3 64 ck, w63 p, sl 4 64 1, sl 5 8 q, w63 i] [rU n B, oU K A, oI 8 H, oI 64 KK, oI 64 W, oI 8 [a, b, c, d, e, f, g, h]] on out
theorem pR3 (n K ch ck p i q : Nat) (B A H KK W : List Int) (a b c d e f g h : Int) (on : List Value → Heap → Out) (out : Exit → List Value → Heap → Out)
    (w1 : -9223372036854775808 ≤ (↑i : Int) + (1 : Int) ∧ (↑i : Int) + (1 : Int) ≤ 9223372036854775807 := by omega)
    (w2 : -9223372036854775808 ≤ h + thr e (6 : Nat) (11 : Nat) (25 : Nat) false ∧ h + thr e (6 : Nat) (11 : Nat) (25 : Nat) false ≤ 9223372036854775807 := by omega)
    (w3 : -9223372036854775808 ≤ h + thr e (6 : Nat) (11 : Nat) (25 : Nat) false + cho e f g ∧ h + thr e (6 : Nat) (11 : Nat) (25 : Nat) false + cho e f g ≤ 9223372036854775807 := by omega)
    (w4 : -9223372036854775808 ≤ h + thr e (6 : Nat) (11 : Nat) (25 : Nat) false + cho e f g + KK.getD i (0 : Int) ∧ h + thr e (6 : Nat) (11 : Nat) (25 : Nat) false + cho e f g + KK.getD i (0 : Int) ≤ 9223372036854775807 := by omega)
    (w5 : -9223372036854775808 ≤ h + thr e (6 : Nat) (11 : Nat) (25 : Nat) false + cho e f g + KK.getD i (0 : Int) + W.getD i (0 : Int) ∧ h + thr e (6 : Nat) (11 : Nat) (25 : Nat) false + cho e f g + KK.getD i (0 : Int) + W.getD i (0 : Int) ≤ 9223372036854775807 := by omega)
    (w6 : -9223372036854775808 ≤ thr a (2 : Nat) (13 : Nat) (22 : Nat) false + maj a b c ∧ thr a (2 : Nat) (13 : Nat) (22 : Nat) false + maj a b c ≤ 9223372036854775807 := by omega)
    (w7 : -9223372036854775808 ≤ h + thr e (6 : Nat) (11 : Nat) (25 : Nat) false + cho e f g + KK.getD i (0 : Int) + W.getD i (0 : Int) + (thr a (2 : Nat) (13 : Nat) (22 : Nat) false + maj a b c) ∧ h + thr e (6 : Nat) (11 : Nat) (25 : Nat) false + cho e f g + KK.getD i (0 : Int) + W.getD i (0 : Int) + (thr a (2 : Nat) (13 : Nat) (22 : Nat) false + maj a b c) ≤ 9223372036854775807 := by omega)
    (w8 : -9223372036854775808 ≤ d + (h + thr e (6 : Nat) (11 : Nat) (25 : Nat) false + cho e f g + KK.getD i (0 : Int) + W.getD i (0 : Int)) ∧ d + (h + thr e (6 : Nat) (11 : Nat) (25 : Nat) false + cho e f g + KK.getD i (0 : Int) + W.getD i (0 : Int)) ≤ 9223372036854775807 := by omega)
    (h1 : (↑i : Int) < (64 : Int) := by first | omega | assumption | rfl)
    (h2 : W32 e ∧ (1 : Int) ≤ (6 : Int) ∧ (6 : Int) ≤ (31 : Int) ∧ (1 : Int) ≤ (11 : Int) ∧ (11 : Int) ≤ (31 : Int) ∧ (1 : Int) ≤ (25 : Int) ∧ (25 : Int) ≤ (31 : Int) := by first | omega | assumption | rfl | ((repeat' with_reducible apply And.intro) <;> first | rfl | assumption | omega))
    (h3 : W32 e ∧ W32 f ∧ W32 g := by first | omega | assumption | rfl | ((repeat' with_reducible apply And.intro) <;> first | rfl | assumption | omega))
    (h4 : (0 : Int) ≤ (↑i : Int) := by first | omega | assumption | rfl)
    (h5 : i < (64 : Nat) := by first | omega | assumption | rfl)
    (h6 : W32 a ∧ (1 : Int) ≤ (2 : Int) ∧ (2 : Int) ≤ (31 : Int) ∧ (1 : Int) ≤ (13 : Int) ∧ (13 : Int) ≤ (31 : Int) ∧ (1 : Int) ≤ (22 : Int) ∧ (22 : Int) ≤ (31 : Int) := by first | omega | assumption | rfl | ((repeat' with_reducible apply And.intro) <;> first | rfl | assumption | omega))
    (h7 : W32 a ∧ W32 b ∧ W32 c := by first | omega | assumption | rfl | ((repeat' with_reducible apply And.intro) <;> first | rfl | assumption | omega)) : roundK Try.prog (SRf.on [(105, true)]) noL Try.f35.ntmps 1 (((loops (loopOf Try.f35 0))[2]?).getD .skip) liveR3 [.slice none 0 0, sl 1 K 1, sl 2 8 ch, sl 3 64 ck, w63 p, sl 4 64 1, sl 5 8 q, w63 i] [rU n B, oU K A, oI 8 H, oI 64 KK, oI 64 W, oI 8 [a, b, c, d, e, f, g, h]] on out =
     (on [Value.slice none (0 : Nat) (0 : Nat), Value.slice (some (Addr.mk (1 : Nat) (0 : Nat) none)) K (1 : Nat), Value.slice (some (Addr.mk (2 : Nat) (0 : Nat) none)) (8 : Nat) ch, Value.slice (some
     (Addr.mk (3 : Nat) (0 : Nat) none)) (64 : Nat) ck, Value.int IntKind.i64 (↑p : Int), Value.slice (some (Addr.mk (4 : Nat) (0 : Nat) none)) (64 : Nat) (1 : Nat), Value.slice (some (Addr.mk (5 : Nat) (0
     : Nat) none)) (8 : Nat) (0 : Nat), Value.int IntKind.i64 ((↑i : Int) + (1 : Int))] [some (Blk.mk false (1 : Nat) [Seg.ints IntKind.u8 n B]), some (Blk.mk true (1 : Nat) [Seg.ints IntKind.u8 K A]),
     some (Blk.mk true (1 : Nat) [Seg.ints IntKind.i64 (8 : Nat) H]), some (Blk.mk true (1 : Nat) [Seg.ints IntKind.i64 (64 : Nat) KK]), some (Blk.mk true (1 : Nat) [Seg.ints IntKind.i64 (64 : Nat) W]),
     some (Blk.mk true (1 : Nat) [Seg.ints IntKind.i64 (8 : Nat) [(h + thr e (6 : Nat) (11 : Nat) (25 : Nat) false + cho e f g + KK.getD i (0 : Int) + W.getD i (0 : Int) + (thr a (2 : Nat) (13 : Nat) (22 :
     Nat) false + maj a b c)).tmod (4294967296 : Int), a, b, c, (d + (h + thr e (6 : Nat) (11 : Nat) (25 : Nat) false + cho e f g + KK.getD i (0 : Int) + W.getD i (0 : Int))).tmod (4294967296 : Int), e, f,
     g]])]) :=
  Eq.trans (b :=
     bif decide ((↑i : Int) < (64 : Int)) then bif chk (W32 e ∧ (1 : Int) ≤ (6 : Int) ∧ (6 : Int) ≤ (31 : Int) ∧ (1 : Int) ≤ (11 : Int) ∧ (11 : Int) ≤ (31 : Int) ∧ (1 : Int) ≤ (25 : Int) ∧ (25 : Int) ≤ (31
     : Int)) then bif chk (W32 e ∧ W32 f ∧ W32 g) then bif decide ((0 : Int) ≤ (↑i : Int)) && decide ((↑i : Int) < (64 : Int)) then bif ((0 : Nat) + (↑i : Int).toNat * (1 : Nat)).blt (64 : Nat) then bif
     decide ((0 : Int) ≤ (↑i : Int)) && decide ((↑i : Int) < (64 : Int)) then bif ((0 : Nat) + (↑i : Int).toNat * (1 : Nat)).blt (64 : Nat) then bif chk (W32 a ∧ (1 : Int) ≤ (2 : Int) ∧ (2 : Int) ≤ (31 :
     Int) ∧ (1 : Int) ≤ (13 : Int) ∧ (13 : Int) ≤ (31 : Int) ∧ (1 : Int) ≤ (22 : Int) ∧ (22 : Int) ≤ (31 : Int)) then bif chk (W32 a ∧ W32 b ∧ W32 c) then on [Value.slice none (0 : Nat) (0 : Nat),
     Value.slice (some (Addr.mk (1 : Nat) (0 : Nat) none)) K (1 : Nat), Value.slice (some (Addr.mk (2 : Nat) (0 : Nat) none)) (8 : Nat) ch, Value.slice (some (Addr.mk (3 : Nat) (0 : Nat) none)) (64 : Nat)
     ck, Value.int IntKind.i64 (↑p : Int), Value.slice (some (Addr.mk (4 : Nat) (0 : Nat) none)) (64 : Nat) (1 : Nat), Value.slice (some (Addr.mk (5 : Nat) (0 : Nat) none)) (8 : Nat) (0 : Nat), Value.int
     IntKind.i64 (IntKind.i64.wrap ((↑i : Int) + (1 : Int)))] [some (Blk.mk false (1 : Nat) [Seg.ints IntKind.u8 n B]), some (Blk.mk true (1 : Nat) [Seg.ints IntKind.u8 K A]), some (Blk.mk true (1 : Nat)
     [Seg.ints IntKind.i64 (8 : Nat) H]), some (Blk.mk true (1 : Nat) [Seg.ints IntKind.i64 (64 : Nat) KK]), some (Blk.mk true (1 : Nat) [Seg.ints IntKind.i64 (64 : Nat) W]), some (Blk.mk true (1 : Nat)
     [Seg.ints IntKind.i64 (8 : Nat) [(IntKind.i64.wrap (IntKind.i64.wrap (IntKind.i64.wrap (IntKind.i64.wrap (IntKind.i64.wrap (h + thr e (6 : Nat) (11 : Nat) (25 : Nat) false) + cho e f g) + KK.getD ((0
     : Nat) + (↑i : Int).toNat * (1 : Nat)) (0 : Int)) + W.getD ((0 : Nat) + (↑i : Int).toNat * (1 : Nat)) (0 : Int)) + IntKind.i64.wrap (thr a (2 : Nat) (13 : Nat) (22 : Nat) false + maj a b c))).tmod
     (4294967296 : Int), a, b, c, (IntKind.i64.wrap (d + IntKind.i64.wrap (IntKind.i64.wrap (IntKind.i64.wrap (IntKind.i64.wrap (h + thr e (6 : Nat) (11 : Nat) (25 : Nat) false) + cho e f g) + KK.getD ((0
     : Nat) + (↑i : Int).toNat * (1 : Nat)) (0 : Int)) + W.getD ((0 : Nat) + (↑i : Int).toNat * (1 : Nat)) (0 : Int)))).tmod (4294967296 : Int), e, f, g]])] else none else none else none else none else
     none else none else none else none else none) (by kernel_rfl) (by simp only [-eq_self, Int.toNat_natCast, Nat.mul_one, Nat.zero_add, swrap w1.1 w1.2, swrap w2.1 w2.2, swrap w3.1 w3.2, swrap w4.1 w4.2, swrap w5.1 w5.2, swrap w6.1 w6.2, swrap w7.1 w7.2, swrap w8.1 w8.2]; exact (go_t (dec_t h1) (go_t (chk_t h2) (go_t (chk_t h3) (go_t (and_t (dec_t h4) (dec_t h1)) (go_t (blt_t h5) (go_t (and_t (dec_t h4) (dec_t h1)) (go_t (blt_t h5) (go_t (chk_t h6) (go_t (chk_t h7) rfl))))))))))
--CFEND
--CP pR3x (n K ch ck p q : Nat) (B A H KK W V : List Int) (on : List Value → Heap → Out) (out : Exit → List Value → Heap → Out) :: roundK Try.prog (SRf.on [(105, false)]) noL Try.f35.ntmps 1 (((loops (loopOf Try.f35 0))[2]?).getD .skip) liveR3 [.slice none 0 0, sl 1 K 1, sl 2 8 ch, sl 3 64 ck, w63 p, sl 4 64 1, sl 5 8 q, w63 64] [rU n B, oU K A, oI 8 H, oI 64 KK, oI 64 W, oI 8 V] on out
theorem pR3x (n K ch ck p q : Nat) (B A H KK W V : List Int) (on : List Value → Heap → Out) (out : Exit → List Value → Heap → Out) : roundK Try.prog (SRf.on [(105, false)]) noL Try.f35.ntmps 1 (((loops (loopOf Try.f35 0))[2]?).getD .skip) liveR3 [.slice none 0 0, sl 1 K 1, sl 2 8 ch, sl 3 64 ck, w63 p, sl 4 64 1, sl 5 8 q, w63 64] [rU n B, oU K A, oI 8 H, oI 64 KK, oI 64 W, oI 8 V] on out =
     (out (Exit.exit (6 : Nat)) [Value.slice none (0 : Nat) (0 : Nat), Value.slice (some (Addr.mk (1 : Nat) (0 : Nat) none)) K (1 : Nat), Value.slice (some (Addr.mk (2 : Nat) (0 : Nat) none)) (8 : Nat) ch,
     Value.slice (some (Addr.mk (3 : Nat) (0 : Nat) none)) (64 : Nat) ck, Value.int IntKind.i64 (↑p : Int), Value.slice (some (Addr.mk (4 : Nat) (0 : Nat) none)) (64 : Nat) (1 : Nat), Value.slice (some
     (Addr.mk (5 : Nat) (0 : Nat) none)) (8 : Nat) q, Value.int IntKind.i64 (64 : Int)] [some (Blk.mk false (1 : Nat) [Seg.ints IntKind.u8 n B]), some (Blk.mk true (1 : Nat) [Seg.ints IntKind.u8 K A]),
     some (Blk.mk true (1 : Nat) [Seg.ints IntKind.i64 (8 : Nat) H]), some (Blk.mk true (1 : Nat) [Seg.ints IntKind.i64 (64 : Nat) KK]), some (Blk.mk true (1 : Nat) [Seg.ints IntKind.i64 (64 : Nat) W]),
     some (Blk.mk true (1 : Nat) [Seg.ints IntKind.i64 (8 : Nat) V])]) :=
  Eq.trans (by kernel_rfl) rfl
--CFEND
noncomputable abbrev bR1 : Code := ((loops (loopOf Try.f35 0))[0]?).getD .skip
noncomputable abbrev bR2 : Code := ((loops (loopOf Try.f35 0))[1]?).getD .skip
noncomputable abbrev bR3 : Code := ((loops (loopOf Try.f35 0))[2]?).getD .skip
abbrev stR1 (K ch ck p i : Nat) : List Value := [.slice none 0 0, sl 1 K 1, sl 2 8 ch, sl 3 64 ck, w63 p, sl 4 i 1, w63 i]
abbrev hpR (n K : Nat) (B A H KK : List Int) (i : Nat) (W : List Int) : Heap := [rU n B, oU K A, oI 8 H, oI 64 KK, oI i W]
theorem wdA {A : List Int} {p i : Nat} : ((A.getD ((p : Int) + 4 * (i : Int)).toNat 0 * 256 + A.getD ((p : Int) + 4 * (i : Int) + 1).toNat 0) * 256 + A.getD ((p : Int) + 4 * (i : Int) + 2).toNat 0) * 256 + A.getD ((p : Int) + 4 * (i : Int) + 3).toNat 0 = wd A p i := by
  rw [show ((p : Int) + 4 * (i : Int)).toNat = p + 4 * i by omega, show ((p : Int) + 4 * (i : Int) + 1).toNat = p + 4 * i + 1 by omega, show ((p : Int) + 4 * (i : Int) + 2).toNat = p + 4 * i + 2 by omega, show ((p : Int) + 4 * (i : Int) + 3).toNat = p + 4 * i + 3 by omega]
  rfl
theorem loopR1 (n K ch ck p : Nat) (B A H KK : List Int) (hA : ∀ x ∈ A, Byt x) (hp : p + 64 ≤ K) (hK : K ≤ 100000) : ∀ (m i : Nat), i + m = 16 → 1 ≤ i →
    LoopT Try.prog Try.f35.ntmps 1 bR1 (zipS liveR1 (stR1 K ch ck p i)) (hpR n K B A H KK i (wds A p i)) (.exit 2) (zipS liveR1 (stR1 K ch ck p 16)) (hpR n K B A H KK 16 (wds A p 16)) := by
  intro m
  induction m with
  | zero =>
    intro i hi h1
    obtain rfl : i = 16 := hi
    exact LoopT.last (by simp) (CodeT.out (S := (mkS []).on [(29, false)]) mk0 noL_ok (fun on out => pR1x n K ch ck p B A H KK _ on out))
  | succ m ih =>
    intro i hi h1
    have h := ih (i + 1) (by omega) (by omega)
    rw [wds_succ] at h
    refine LoopT.step (CodeT.on (S := (mkS []).on [(29, true)]) mk0 noL_ok (fun on out => ?_)) h
    have b0 := getD_byt hA ((p : Int) + 4 * (i : Int)).toNat
    have b1 := getD_byt hA ((p : Int) + 4 * (i : Int) + 1).toNat
    have b2 := getD_byt hA ((p : Int) + 4 * (i : Int) + 2).toNat
    have b3 := getD_byt hA ((p : Int) + 4 * (i : Int) + 3).toNat
    unfold Byt at b0 b1 b2 b3
    rw [pR1 n K ch ck p i B A H KK (wds A p i) on out, wdA, List.take_of_length_le (by rw [wds_len]; exact Nat.le_refl _)]
    rfl
theorem loopR1' (n K ch ck p : Nat) (B A H KK : List Int) (hA : ∀ x ∈ A, Byt x) (hp : p + 64 ≤ K) (hK : K ≤ 100000) :
    LoopT Try.prog Try.f35.ntmps 1 bR1 (zipS liveR1 [.slice none 0 0, sl 1 K 1, sl 2 8 ch, sl 3 64 ck, w63 p, .slice none 0 0, w63 0]) [rU n B, oU K A, oI 8 H, oI 64 KK] (.exit 2) (zipS liveR1 (stR1 K ch ck p 16)) (hpR n K B A H KK 16 (wds A p 16)) := by
  have h := loopR1 n K ch ck p B A H KK hA hp hK 15 1 rfl (by omega)
  refine LoopT.step (CodeT.on (S := (mkS []).on [(29, true)]) mk0 noL_ok (fun on out => ?_)) h
  have b0 := getD_byt hA ((p : Int) + 0).toNat
  have b1 := getD_byt hA ((p : Int) + 0 + 1).toNat
  have b2 := getD_byt hA ((p : Int) + 0 + 2).toNat
  have b3 := getD_byt hA ((p : Int) + 0 + 3).toNat
  unfold Byt at b0 b1 b2 b3
  have e := wdA (A := A) (p := p) (i := 0)
  rw [pR0 n K ch ck p B A H KK on out]
  have e2 : ((A.getD ((p : Int) + 0).toNat 0 * 256 + A.getD ((p : Int) + 0 + 1).toNat 0) * 256 + A.getD ((p : Int) + 0 + 2).toNat 0) * 256 + A.getD ((p : Int) + 0 + 3).toNat 0 = wd A p 0 := e
  rw [e2]
  rfl
abbrev stR2 (K ch ck p i : Nat) : List Value := [.slice none 0 0, sl 1 K 1, sl 2 8 ch, sl 3 64 ck, w63 p, sl 4 i 1, w63 i]
theorem loopR2 (n K ch ck p : Nat) (B A H KK : List Int) : ∀ (m : Nat) (W : List Int), W.length + m = 64 → 16 ≤ W.length → (∀ x ∈ W, W32 x) →
    LoopT Try.prog Try.f35.ntmps 1 bR2 (zipS liveR2 (stR2 K ch ck p W.length)) (hpR n K B A H KK W.length W) (.exit 4) (zipS liveR2 (stR2 K ch ck p 64)) (hpR n K B A H KK 64 (wgr m W)) := by
  intro m
  induction m with
  | zero =>
    intro W hi h1 h2
    rw [show W.length = 64 by omega]
    exact LoopT.last (by simp) (CodeT.out (S := SRf.on [(69, false)]) SRf_ok noL_ok (fun on out => pR2x n K ch ck p B A H KK W on out))
  | succ m ih =>
    intro W hi h1 h2
    have h := ih (W ++ [wnx W]) (by rw [List.length_append]; simp; omega) (by rw [List.length_append]; omega) (fun x hx => by
      rcases List.mem_append.1 hx with hx | hx
      · exact h2 x hx
      · rw [List.mem_singleton.1 hx]; exact W32.w _)
    rw [show (W ++ [wnx W]).length = W.length + 1 by simp] at h
    refine LoopT.step (CodeT.on (S := SRf.on [(69, true)]) SRf_ok noL_ok (fun on out => ?_)) h
    have w2 := getD_W32 h2 ((W.length : Int) - 2).toNat
    have w7 := getD_W32 h2 ((W.length : Int) - 7).toNat
    have w15 := getD_W32 h2 ((W.length : Int) - 15).toNat
    have w16 := getD_W32 h2 ((W.length : Int) - 16).toNat
    have t2 := w2.thr (a := 17) (b := 19) (c := 10) (s := true) (by decide) (by decide) (by decide)
    have t15 := w15.thr (a := 7) (b := 18) (c := 3) (s := true) (by decide) (by decide) (by decide)
    have q7 := w7.1; have r7 := w7.2; have q16 := w16.1; have r16 := w16.2; have q2 := t2.1; have r2 := t2.2; have q15 := t15.1; have r15 := t15.2
    rw [pR2 n K ch ck p W.length B A H KK W on out (h5 := ⟨w2, by omega, by omega, by omega, by omega, by omega, by omega⟩) (h12 := ⟨w15, by omega, by omega, by omega, by omega, by omega, by omega⟩), List.take_of_length_le (Nat.le_refl _), Int.tmod_eq_emod_of_nonneg (by omega)]
    have e : ∀ k : Nat, ((W.length : Int) - (k : Int)).toNat = W.length - k := fun k => by omega
    have e2 : ((W.length : Int) - 2).toNat = W.length - 2 := e 2
    have e7 : ((W.length : Int) - 7).toNat = W.length - 7 := e 7
    have e15 : ((W.length : Int) - 15).toNat = W.length - 15 := e 15
    have e16 : ((W.length : Int) - 16).toNat = W.length - 16 := e 16
    rw [e2, e7, e15, e16]
    rfl
abbrev stR3 (K ch ck p q i : Nat) : List Value := [.slice none 0 0, sl 1 K 1, sl 2 8 ch, sl 3 64 ck, w63 p, sl 4 64 1, sl 5 8 q, w63 i]
abbrev hpR3 (n K : Nat) (B A H KK W V : List Int) : Heap := [rU n B, oU K A, oI 8 H, oI 64 KK, oI 64 W, oI 8 V]
theorem roundR3 (n K ch ck p q i : Nat) (B A H KK W V : List Int) (hKK : ∀ x ∈ KK, W32 x) (hW : ∀ x ∈ W, W32 x) (hi : i < 64) (hV : V.length = 8) (hV2 : ∀ x ∈ V, W32 x) :
    CodeT Try.prog Try.f35.ntmps 1 bR3 (zipS liveR3 (stR3 K ch ck p q i)) (hpR3 n K B A H KK W V) .normal (zipS liveR3 (stR3 K ch ck p 0 (i + 1))) (hpR3 n K B A H KK W (rndL V (KK.getD i 0) (W.getD i 0))) := by
  refine CodeT.on (S := SRf.on [(105, true)]) SRf_ok noL_ok (fun on out => ?_)
  obtain ⟨a, b, c, d, e, f, g, h, rfl⟩ := len8 hV
  have ha := hV2 a (by simp)
  have hb := hV2 b (by simp)
  have hc := hV2 c (by simp)
  have hd := hV2 d (by simp)
  have he := hV2 e (by simp)
  have hf := hV2 f (by simp)
  have hg := hV2 g (by simp)
  have hh := hV2 h (by simp)
  have wk := getD_W32 hKK i
  have ww := getD_W32 hW i
  have te := he.thr (a := 6) (b := 11) (c := 25) (s := false) (by decide) (by decide) (by decide)
  have ta := ha.thr (a := 2) (b := 13) (c := 22) (s := false) (by decide) (by decide) (by decide)
  have tc := he.cho hf hg
  have tm := ha.maj hb hc
  have q1 := wk.1; have q2 := wk.2; have q3 := ww.1; have q4 := ww.2; have q5 := te.1; have q6 := te.2; have q7 := ta.1; have q8 := ta.2; have q9 := tc.1; have r1 := tc.2; have r2 := tm.1; have r3 := tm.2
  have r4 := hd.1; have r5 := hd.2; have r6 := hh.1; have r7 := hh.2
  rw [pR3 n K ch ck p i q B A H KK W a b c d e f g h on out (h2 := ⟨he, by omega, by omega, by omega, by omega, by omega, by omega⟩) (h3 := ⟨he, hf, hg⟩) (h6 := ⟨ha, by omega, by omega, by omega, by omega, by omega, by omega⟩) (h7 := ⟨ha, hb, hc⟩),
    Int.tmod_eq_emod_of_nonneg (by omega), Int.tmod_eq_emod_of_nonneg (by omega)]
  rfl
theorem loopR3 (n K ch ck p : Nat) (B A H KK W : List Int) (hKK : ∀ x ∈ KK, W32 x) (hW : ∀ x ∈ W, W32 x) : ∀ (m i : Nat) (V : List Int), i + m = 64 → V.length = 8 → (∀ x ∈ V, W32 x) →
    LoopT Try.prog Try.f35.ntmps 1 bR3 (zipS liveR3 (stR3 K ch ck p 0 i)) (hpR3 n K B A H KK W V) (.exit 6) (zipS liveR3 (stR3 K ch ck p 0 64)) (hpR3 n K B A H KK W (rnds W KK m i V)) := by
  intro m
  induction m with
  | zero =>
    intro i V hi _ _
    obtain rfl : i = 64 := hi
    exact LoopT.last (by simp) (CodeT.out (S := SRf.on [(105, false)]) SRf_ok noL_ok (fun on out => pR3x n K ch ck p 0 B A H KK W V on out))
  | succ m ih =>
    intro i V hi h1 h2
    have h3 := rndL_ok h1 h2 (KK.getD i 0) (W.getD i 0)
    exact LoopT.step (roundR3 n K ch ck p 0 i B A H KK W V hKK hW (by omega) h1 h2) (ih (i + 1) _ (by omega) h3.1 h3.2)
end Go.Proofs.Ytcjjngdkkihgjaa.VC
