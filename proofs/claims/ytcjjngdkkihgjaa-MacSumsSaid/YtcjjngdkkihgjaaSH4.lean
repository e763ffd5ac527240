/- SHA-256: the words of a block. -/
import Derived.Test.YtcjjngdkkihgjaaSH3
namespace Go.Proofs.Ytcjjngdkkihgjaa.VC
open Go Go.Proofs

abbrev slV (id o n c : Nat) : Value := .slice (some ⟨id, o, none⟩) n c
abbrev rU (n : Nat) (xs : List Int) : Option Blk := some ⟨false, 1, [.ints .u8 n xs]⟩
abbrev oU (n : Nat) (xs : List Int) : Option Blk := some ⟨true, 1, [.ints .u8 n xs]⟩
abbrev oW (n : Nat) (xs : List Int) : Option Blk := some ⟨true, n, [.ints .u32 n xs]⟩
def liveW1 : List Nat := [2, 0, 7]
noncomputable def SW : Spec := mkS [(104, false, FRig)]
theorem SW_ok : SpecOK Try.prog SW := mkS_cons okRig (mkS_nil _)
--CP pW1 (N o c i : Nat) (B A : List Int) (on : List Value → Heap → Out) (out : Exit → List Value → Heap → Out) :: roundK Try.prog ((mkS []).on [(8, true)]) noL Try.f102.ntmps 1 (loopOf Try.f102 0) liveW1 [pt 1, slV 0 o 64 c, w63 i] [rU N B, oW 64 A] on out
theorem pW1 (N o c i : Nat) (B A : List Int) (on : List Value → Heap → Out) (out : Exit → List Value → Heap → Out)
    (w1 : -9223372036854775808 ≤ (4 : Int) * (↑i : Int) ∧ (4 : Int) * (↑i : Int) ≤ 9223372036854775807 := by omega)
    (w2 : -9223372036854775808 ≤ (4 : Int) * (↑i : Int) + (1 : Int) ∧ (4 : Int) * (↑i : Int) + (1 : Int) ≤ 9223372036854775807 := by omega)
    (w3 : -9223372036854775808 ≤ (4 : Int) * (↑i : Int) + (2 : Int) ∧ (4 : Int) * (↑i : Int) + (2 : Int) ≤ 9223372036854775807 := by omega)
    (w4 : -9223372036854775808 ≤ (4 : Int) * (↑i : Int) + (3 : Int) ∧ (4 : Int) * (↑i : Int) + (3 : Int) ≤ 9223372036854775807 := by omega)
    (w5 : -9223372036854775808 ≤ (↑i : Int) + (1 : Int) ∧ (↑i : Int) + (1 : Int) ≤ 9223372036854775807 := by omega)
    (h1 : (↑i : Int) < (16 : Int) := by first | omega | assumption | rfl)
    (h2 : (0 : Int) ≤ (4 : Int) * (↑i : Int) := by first | omega | assumption | rfl)
    (h3 : (4 : Int) * (↑i : Int) < (64 : Int) := by first | omega | assumption | rfl)
    (h4 : o + ((4 : Int) * (↑i : Int)).toNat < N := by first | omega | assumption | rfl)
    (h5 : (0 : Int) ≤ (4 : Int) * (↑i : Int) + (1 : Int) := by first | omega | assumption | rfl)
    (h6 : (4 : Int) * (↑i : Int) + (1 : Int) < (64 : Int) := by first | omega | assumption | rfl)
    (h7 : o + ((4 : Int) * (↑i : Int) + (1 : Int)).toNat < N := by first | omega | assumption | rfl)
    (h8 : (0 : Int) ≤ (4 : Int) * (↑i : Int) + (2 : Int) := by first | omega | assumption | rfl)
    (h9 : (4 : Int) * (↑i : Int) + (2 : Int) < (64 : Int) := by first | omega | assumption | rfl)
    (h10 : o + ((4 : Int) * (↑i : Int) + (2 : Int)).toNat < N := by first | omega | assumption | rfl)
    (h11 : (0 : Int) ≤ (4 : Int) * (↑i : Int) + (3 : Int) := by first | omega | assumption | rfl)
    (h12 : (4 : Int) * (↑i : Int) + (3 : Int) < (64 : Int) := by first | omega | assumption | rfl)
    (h13 : o + ((4 : Int) * (↑i : Int) + (3 : Int)).toNat < N := by first | omega | assumption | rfl)
    (h14 : (0 : Int) ≤ (↑i : Int) := by first | omega | assumption | rfl)
    (h15 : (↑i : Int) < (64 : Int) := by first | omega | assumption | rfl)
    (h16 : i < (64 : Nat) := by first | omega | assumption | rfl) : roundK Try.prog ((mkS []).on [(8, true)]) noL Try.f102.ntmps 1 (loopOf Try.f102 0) liveW1 [pt 1, slV 0 o 64 c, w63 i] [rU N B, oW 64 A] on out =
     (on [Value.pointer (some (Addr.mk (1 : Nat) (0 : Nat) none)), Value.slice (some (Addr.mk (0 : Nat) o none)) (64 : Nat) c, Value.int IntKind.i64 ((↑i : Int) + (1 : Int))] [some (Blk.mk false (1 : Nat)
     [Seg.ints IntKind.u8 N B]), some (Blk.mk true (64 : Nat) [Seg.ints IntKind.u32 (64 : Nat) (A.set i (bits BinOp.or IntKind.u32 (bits BinOp.or IntKind.u32 (bits BinOp.or IntKind.u32 (IntKind.u32.wrap
     (IntKind.u32.wrap (B.getD (o + ((4 : Int) * (↑i : Int)).toNat) (0 : Int)) * (16777216 : Int))) (IntKind.u32.wrap (IntKind.u32.wrap (B.getD (o + ((4 : Int) * (↑i : Int) + (1 : Int)).toNat) (0 : Int)) *
     (65536 : Int)))) (IntKind.u32.wrap (IntKind.u32.wrap (B.getD (o + ((4 : Int) * (↑i : Int) + (2 : Int)).toNat) (0 : Int)) * (256 : Int)))) (IntKind.u32.wrap (B.getD (o + ((4 : Int) * (↑i : Int) + (3 :
     Int)).toNat) (0 : Int)))))])]) :=
  Eq.trans (b :=
     bif decide ((↑i : Int) < (16 : Int)) then bif decide ((0 : Int) ≤ IntKind.i64.wrap ((4 : Int) * (↑i : Int))) && decide (IntKind.i64.wrap ((4 : Int) * (↑i : Int)) < (64 : Int)) then bif (o +
     (IntKind.i64.wrap ((4 : Int) * (↑i : Int))).toNat * (1 : Nat)).blt N then bif decide ((0 : Int) ≤ IntKind.i64.wrap (IntKind.i64.wrap ((4 : Int) * (↑i : Int)) + (1 : Int))) && decide (IntKind.i64.wrap
     (IntKind.i64.wrap ((4 : Int) * (↑i : Int)) + (1 : Int)) < (64 : Int)) then bif (o + (IntKind.i64.wrap (IntKind.i64.wrap ((4 : Int) * (↑i : Int)) + (1 : Int))).toNat * (1 : Nat)).blt N then bif decide
     ((0 : Int) ≤ IntKind.i64.wrap (IntKind.i64.wrap ((4 : Int) * (↑i : Int)) + (2 : Int))) && decide (IntKind.i64.wrap (IntKind.i64.wrap ((4 : Int) * (↑i : Int)) + (2 : Int)) < (64 : Int)) then bif (o +
     (IntKind.i64.wrap (IntKind.i64.wrap ((4 : Int) * (↑i : Int)) + (2 : Int))).toNat * (1 : Nat)).blt N then bif decide ((0 : Int) ≤ IntKind.i64.wrap (IntKind.i64.wrap ((4 : Int) * (↑i : Int)) + (3 :
     Int))) && decide (IntKind.i64.wrap (IntKind.i64.wrap ((4 : Int) * (↑i : Int)) + (3 : Int)) < (64 : Int)) then bif (o + (IntKind.i64.wrap (IntKind.i64.wrap ((4 : Int) * (↑i : Int)) + (3 : Int))).toNat
     * (1 : Nat)).blt N then bif decide ((0 : Int) ≤ (↑i : Int)) && decide ((↑i : Int) < (64 : Int)) then bif ((0 : Nat) + (↑i : Int).toNat * (1 : Nat)).blt (64 : Nat) then on [Value.pointer (some (Addr.mk
     (1 : Nat) (0 : Nat) none)), Value.slice (some (Addr.mk (0 : Nat) o none)) (64 : Nat) c, Value.int IntKind.i64 (IntKind.i64.wrap ((↑i : Int) + (1 : Int)))] [some (Blk.mk false (1 : Nat) [Seg.ints
     IntKind.u8 N B]), some (Blk.mk true (64 : Nat) [Seg.ints IntKind.u32 (64 : Nat) (A.set ((0 : Nat) + (↑i : Int).toNat * (1 : Nat)) (bits BinOp.or IntKind.u32 (bits BinOp.or IntKind.u32 (bits BinOp.or
     IntKind.u32 (IntKind.u32.wrap (IntKind.u32.wrap (B.getD (o + (IntKind.i64.wrap ((4 : Int) * (↑i : Int))).toNat * (1 : Nat)) (0 : Int)) * (16777216 : Int))) (IntKind.u32.wrap (IntKind.u32.wrap (B.getD
     (o + (IntKind.i64.wrap (IntKind.i64.wrap ((4 : Int) * (↑i : Int)) + (1 : Int))).toNat * (1 : Nat)) (0 : Int)) * (65536 : Int)))) (IntKind.u32.wrap (IntKind.u32.wrap (B.getD (o + (IntKind.i64.wrap
     (IntKind.i64.wrap ((4 : Int) * (↑i : Int)) + (2 : Int))).toNat * (1 : Nat)) (0 : Int)) * (256 : Int)))) (IntKind.u32.wrap (B.getD (o + (IntKind.i64.wrap (IntKind.i64.wrap ((4 : Int) * (↑i : Int)) + (3
     : Int))).toNat * (1 : Nat)) (0 : Int)))))])] else none else none else none else none else none else none else none else none else none else none else none) (by kernel_rfl) (by simp only [-eq_self, Nat.mul_one, Int.toNat_natCast, Nat.zero_add, swrap w1.1 w1.2, swrap w2.1 w2.2, swrap w3.1 w3.2, swrap w4.1 w4.2, swrap w5.1 w5.2]; exact (go_t (dec_t h1) (go_t (and_t (dec_t h2) (dec_t h3)) (go_t (blt_t h4) (go_t (and_t (dec_t h5) (dec_t h6)) (go_t (blt_t h7) (go_t (and_t (dec_t h8) (dec_t h9)) (go_t (blt_t h10) (go_t (and_t (dec_t h11) (dec_t h12)) (go_t (blt_t h13) (go_t (and_t (dec_t h14) (dec_t h15)) (go_t (blt_t h16) rfl))))))))))))
--CFEND
--CP pW1x (N o c : Nat) (B A : List Int) (on : List Value → Heap → Out) (out : Exit → List Value → Heap → Out) :: roundK Try.prog ((mkS []).on [(8, false)]) noL Try.f102.ntmps 1 (loopOf Try.f102 0) liveW1 [pt 1, slV 0 o 64 c, w63 16] [rU N B, oW 64 A] on out
theorem pW1x (N o c : Nat) (B A : List Int) (on : List Value → Heap → Out) (out : Exit → List Value → Heap → Out) : roundK Try.prog ((mkS []).on [(8, false)]) noL Try.f102.ntmps 1 (loopOf Try.f102 0) liveW1 [pt 1, slV 0 o 64 c, w63 16] [rU N B, oW 64 A] on out =
     (out (Exit.exit (0 : Nat)) [Value.pointer (some (Addr.mk (1 : Nat) (0 : Nat) none)), Value.slice (some (Addr.mk (0 : Nat) o none)) (64 : Nat) c, Value.int IntKind.i64 (16 : Int)] [some (Blk.mk false
     (1 : Nat) [Seg.ints IntKind.u8 N B]), some (Blk.mk true (64 : Nat) [Seg.ints IntKind.u32 (64 : Nat) A])]) :=
  Eq.trans (by kernel_rfl) rfl
--CFEND
def liveW2 : List Nat := [2, 4]
--CP pW2 (N i : Nat) (B A : List Int) (on : List Value → Heap → Out) (out : Exit → List Value → Heap → Out) :: roundK Try.prog (SW.on [(47, true)]) noL Try.f102.ntmps 1 (loopOf Try.f102 1) liveW2 [pt 1, w63 i] [rU N B, oW 64 A] on out
theorem pW2 (N i : Nat) (B A : List Int) (on : List Value → Heap → Out) (out : Exit → List Value → Heap → Out)
    (w1 : -9223372036854775808 ≤ (↑i : Int) - (15 : Int) ∧ (↑i : Int) - (15 : Int) ≤ 9223372036854775807 := by omega)
    (w2 : -9223372036854775808 ≤ (↑i : Int) - (2 : Int) ∧ (↑i : Int) - (2 : Int) ≤ 9223372036854775807 := by omega)
    (w3 : -9223372036854775808 ≤ (↑i : Int) - (16 : Int) ∧ (↑i : Int) - (16 : Int) ≤ 9223372036854775807 := by omega)
    (w4 : -9223372036854775808 ≤ (↑i : Int) - (7 : Int) ∧ (↑i : Int) - (7 : Int) ≤ 9223372036854775807 := by omega)
    (w5 : -9223372036854775808 ≤ (↑i : Int) + (1 : Int) ∧ (↑i : Int) + (1 : Int) ≤ 9223372036854775807 := by omega)
    (h1 : (↑i : Int) < (64 : Int) := by first | omega | assumption | rfl)
    (h2 : (0 : Int) ≤ (↑i : Int) - (15 : Int) := by first | omega | assumption | rfl)
    (h3 : (↑i : Int) - (15 : Int) < (64 : Int) := by first | omega | assumption | rfl)
    (h4 : ((↑i : Int) - (15 : Int)).toNat < (64 : Nat) := by first | omega | assumption | rfl)
    (h5 : (0 : Int) ≤ (↑i : Int) - (2 : Int) := by first | omega | assumption | rfl)
    (h6 : (↑i : Int) - (2 : Int) < (64 : Int) := by first | omega | assumption | rfl)
    (h7 : ((↑i : Int) - (2 : Int)).toNat < (64 : Nat) := by first | omega | assumption | rfl)
    (h8 : (0 : Int) ≤ (↑i : Int) - (16 : Int) := by first | omega | assumption | rfl)
    (h9 : (↑i : Int) - (16 : Int) < (64 : Int) := by first | omega | assumption | rfl)
    (h10 : ((↑i : Int) - (16 : Int)).toNat < (64 : Nat) := by first | omega | assumption | rfl)
    (h11 : (0 : Int) ≤ (↑i : Int) - (7 : Int) := by first | omega | assumption | rfl)
    (h12 : (↑i : Int) - (7 : Int) < (64 : Int) := by first | omega | assumption | rfl)
    (h13 : ((↑i : Int) - (7 : Int)).toNat < (64 : Nat) := by first | omega | assumption | rfl)
    (h14 : W32 (A.getD ((↑i : Int) - (15 : Int)).toNat (0 : Int)) ∧ (1 : Int) ≤ (7 : Int) ∧ (7 : Int) ≤ (31 : Int) := by first | omega | assumption | rfl | ((repeat' with_reducible apply And.intro) <;> first | rfl | assumption | omega))
    (h15 : W32 (A.getD ((↑i : Int) - (15 : Int)).toNat (0 : Int)) ∧ (1 : Int) ≤ (18 : Int) ∧ (18 : Int) ≤ (31 : Int) := by first | omega | assumption | rfl | ((repeat' with_reducible apply And.intro) <;> first | rfl | assumption | omega))
    (h16 : W32 (A.getD ((↑i : Int) - (2 : Int)).toNat (0 : Int)) ∧ (1 : Int) ≤ (17 : Int) ∧ (17 : Int) ≤ (31 : Int) := by first | omega | assumption | rfl | ((repeat' with_reducible apply And.intro) <;> first | rfl | assumption | omega))
    (h17 : W32 (A.getD ((↑i : Int) - (2 : Int)).toNat (0 : Int)) ∧ (1 : Int) ≤ (19 : Int) ∧ (19 : Int) ≤ (31 : Int) := by first | omega | assumption | rfl | ((repeat' with_reducible apply And.intro) <;> first | rfl | assumption | omega))
    (h18 : (0 : Int) ≤ (↑i : Int) := by first | omega | assumption | rfl)
    (h19 : i < (64 : Nat) := by first | omega | assumption | rfl) : roundK Try.prog (SW.on [(47, true)]) noL Try.f102.ntmps 1 (loopOf Try.f102 1) liveW2 [pt 1, w63 i] [rU N B, oW 64 A] on out =
     (on [Value.pointer (some (Addr.mk (1 : Nat) (0 : Nat) none)), Value.int IntKind.i64 ((↑i : Int) + (1 : Int))] [some (Blk.mk false (1 : Nat) [Seg.ints IntKind.u8 N B]), some (Blk.mk true (64 : Nat)
     [Seg.ints IntKind.u32 (64 : Nat) (A.set i (IntKind.u32.wrap (IntKind.u32.wrap (IntKind.u32.wrap (A.getD ((↑i : Int) - (16 : Int)).toNat (0 : Int) + A.getD ((↑i : Int) - (7 : Int)).toNat (0 : Int)) +
     bits BinOp.xor IntKind.u32 (bits BinOp.xor IntKind.u32 (rotr (A.getD ((↑i : Int) - (15 : Int)).toNat (0 : Int)) (7 : Nat)) (rotr (A.getD ((↑i : Int) - (15 : Int)).toNat (0 : Int)) (18 : Nat)))
     ((A.getD ((↑i : Int) - (15 : Int)).toNat (0 : Int)).fdiv (8 : Int))) + bits BinOp.xor IntKind.u32 (bits BinOp.xor IntKind.u32 (rotr (A.getD ((↑i : Int) - (2 : Int)).toNat (0 : Int)) (17 : Nat)) (rotr
     (A.getD ((↑i : Int) - (2 : Int)).toNat (0 : Int)) (19 : Nat))) ((A.getD ((↑i : Int) - (2 : Int)).toNat (0 : Int)).fdiv (1024 : Int)))))])]) :=
  Eq.trans (b :=
     bif decide ((↑i : Int) < (64 : Int)) then bif decide ((0 : Int) ≤ IntKind.i64.wrap ((↑i : Int) - (15 : Int))) && decide (IntKind.i64.wrap ((↑i : Int) - (15 : Int)) < (64 : Int)) then bif ((0 : Nat) +
     (IntKind.i64.wrap ((↑i : Int) - (15 : Int))).toNat * (1 : Nat)).blt (64 : Nat) then bif decide ((0 : Int) ≤ IntKind.i64.wrap ((↑i : Int) - (2 : Int))) && decide (IntKind.i64.wrap ((↑i : Int) - (2 :
     Int)) < (64 : Int)) then bif ((0 : Nat) + (IntKind.i64.wrap ((↑i : Int) - (2 : Int))).toNat * (1 : Nat)).blt (64 : Nat) then bif decide ((0 : Int) ≤ IntKind.i64.wrap ((↑i : Int) - (16 : Int))) &&
     decide (IntKind.i64.wrap ((↑i : Int) - (16 : Int)) < (64 : Int)) then bif ((0 : Nat) + (IntKind.i64.wrap ((↑i : Int) - (16 : Int))).toNat * (1 : Nat)).blt (64 : Nat) then bif decide ((0 : Int) ≤
     IntKind.i64.wrap ((↑i : Int) - (7 : Int))) && decide (IntKind.i64.wrap ((↑i : Int) - (7 : Int)) < (64 : Int)) then bif ((0 : Nat) + (IntKind.i64.wrap ((↑i : Int) - (7 : Int))).toNat * (1 : Nat)).blt
     (64 : Nat) then bif chk (W32 (A.getD ((0 : Nat) + (IntKind.i64.wrap ((↑i : Int) - (15 : Int))).toNat * (1 : Nat)) (0 : Int)) ∧ (1 : Int) ≤ (7 : Int) ∧ (7 : Int) ≤ (31 : Int)) then bif chk (W32 (A.getD
     ((0 : Nat) + (IntKind.i64.wrap ((↑i : Int) - (15 : Int))).toNat * (1 : Nat)) (0 : Int)) ∧ (1 : Int) ≤ (18 : Int) ∧ (18 : Int) ≤ (31 : Int)) then bif chk (W32 (A.getD ((0 : Nat) + (IntKind.i64.wrap
     ((↑i : Int) - (2 : Int))).toNat * (1 : Nat)) (0 : Int)) ∧ (1 : Int) ≤ (17 : Int) ∧ (17 : Int) ≤ (31 : Int)) then bif chk (W32 (A.getD ((0 : Nat) + (IntKind.i64.wrap ((↑i : Int) - (2 : Int))).toNat *
     (1 : Nat)) (0 : Int)) ∧ (1 : Int) ≤ (19 : Int) ∧ (19 : Int) ≤ (31 : Int)) then bif decide ((0 : Int) ≤ (↑i : Int)) && decide ((↑i : Int) < (64 : Int)) then bif ((0 : Nat) + (↑i : Int).toNat * (1 :
     Nat)).blt (64 : Nat) then on [Value.pointer (some (Addr.mk (1 : Nat) (0 : Nat) none)), Value.int IntKind.i64 (IntKind.i64.wrap ((↑i : Int) + (1 : Int)))] [some (Blk.mk false (1 : Nat) [Seg.ints
     IntKind.u8 N B]), some (Blk.mk true (64 : Nat) [Seg.ints IntKind.u32 (64 : Nat) (A.set ((0 : Nat) + (↑i : Int).toNat * (1 : Nat)) (IntKind.u32.wrap (IntKind.u32.wrap (IntKind.u32.wrap (A.getD ((0 :
     Nat) + (IntKind.i64.wrap ((↑i : Int) - (16 : Int))).toNat * (1 : Nat)) (0 : Int) + A.getD ((0 : Nat) + (IntKind.i64.wrap ((↑i : Int) - (7 : Int))).toNat * (1 : Nat)) (0 : Int)) + bits BinOp.xor
     IntKind.u32 (bits BinOp.xor IntKind.u32 (rotr (A.getD ((0 : Nat) + (IntKind.i64.wrap ((↑i : Int) - (15 : Int))).toNat * (1 : Nat)) (0 : Int)) (7 : Nat)) (rotr (A.getD ((0 : Nat) + (IntKind.i64.wrap
     ((↑i : Int) - (15 : Int))).toNat * (1 : Nat)) (0 : Int)) (18 : Nat))) ((A.getD ((0 : Nat) + (IntKind.i64.wrap ((↑i : Int) - (15 : Int))).toNat * (1 : Nat)) (0 : Int)).fdiv (8 : Int))) + bits BinOp.xor
     IntKind.u32 (bits BinOp.xor IntKind.u32 (rotr (A.getD ((0 : Nat) + (IntKind.i64.wrap ((↑i : Int) - (2 : Int))).toNat * (1 : Nat)) (0 : Int)) (17 : Nat)) (rotr (A.getD ((0 : Nat) + (IntKind.i64.wrap
     ((↑i : Int) - (2 : Int))).toNat * (1 : Nat)) (0 : Int)) (19 : Nat))) ((A.getD ((0 : Nat) + (IntKind.i64.wrap ((↑i : Int) - (2 : Int))).toNat * (1 : Nat)) (0 : Int)).fdiv (1024 : Int)))))])] else none
     else none else none else none else none else none else none else none else none else none else none else none else none else none else none) (by kernel_rfl) (by simp only [-eq_self, Nat.mul_one, Nat.zero_add, Int.toNat_natCast, swrap w1.1 w1.2, swrap w2.1 w2.2, swrap w3.1 w3.2, swrap w4.1 w4.2, swrap w5.1 w5.2]; exact (go_t (dec_t h1) (go_t (and_t (dec_t h2) (dec_t h3)) (go_t (blt_t h4) (go_t (and_t (dec_t h5) (dec_t h6)) (go_t (blt_t h7) (go_t (and_t (dec_t h8) (dec_t h9)) (go_t (blt_t h10) (go_t (and_t (dec_t h11) (dec_t h12)) (go_t (blt_t h13) (go_t (chk_t h14) (go_t (chk_t h15) (go_t (chk_t h16) (go_t (chk_t h17) (go_t (and_t (dec_t h18) (dec_t h1)) (go_t (blt_t h19) rfl))))))))))))))))
--CFEND
--CP pW2x (N : Nat) (B A : List Int) (on : List Value → Heap → Out) (out : Exit → List Value → Heap → Out) :: roundK Try.prog ((mkS []).on [(47, false)]) noL Try.f102.ntmps 1 (loopOf Try.f102 1) liveW2 [pt 1, w63 64] [rU N B, oW 64 A] on out
theorem pW2x (N : Nat) (B A : List Int) (on : List Value → Heap → Out) (out : Exit → List Value → Heap → Out) : roundK Try.prog ((mkS []).on [(47, false)]) noL Try.f102.ntmps 1 (loopOf Try.f102 1) liveW2 [pt 1, w63 64] [rU N B, oW 64 A] on out =
     (out (Exit.exit (2 : Nat)) [Value.pointer (some (Addr.mk (1 : Nat) (0 : Nat) none)), Value.int IntKind.i64 (64 : Int)] [some (Blk.mk false (1 : Nat) [Seg.ints IntKind.u8 N B]), some (Blk.mk true (64 :
     Nat) [Seg.ints IntKind.u32 (64 : Nat) A])]) :=
  Eq.trans (by kernel_rfl) rfl
--CFEND
/-! ### several loops -/
def LsOK (P : Program) (L : LSpec) (n m : Nat) (bs : List Code) : Prop := ∀ b ∈ bs, ∀ live f, (loopKey b).bind L = some (live, f) → LoopOK P n m b live f
theorem LsOK.nil {P : Program} {L : LSpec} {n m : Nat} : LsOK P L n m [] := fun b hb => by cases hb
theorem LsOK.cons {P : Program} {L : LSpec} {n m : Nat} {b : Code} {bs : List Code} {live : List Nat} {f : LF} (hk : (loopKey b).bind L = some (live, f)) (h : LoopOK P n m b live f) (hr : LsOK P L n m bs) : LsOK P L n m (b :: bs) := by
  intro x hx live2 f2 h2
  rcases List.mem_cons.1 hx with rfl | hx
  · rw [hk] at h2
    cases h2
    exact h
  · exact hr x hx live2 f2 h2
theorem LsOK.all {P : Program} {L : LSpec} {n m : Nat} {c : Code} {bs : List Code} (hl : loops c = bs) (h : LsOK P L n m bs) : LoopsOK P L n m c := by
  intro b hb live f hx
  rw [hl] at hb
  exact h b hb live f hx
def manyL : List (Nat × List Nat × LF) → LSpec
  | [], _ => none
  | (key, live, f) :: r, i => bif Nat.beq i key then some (live, f) else manyL r i
/-! ### the words -/
def wd (B : List Int) (o j : Nat) : Int := ((B.getD (o + 4 * j) 0 * 256 + B.getD (o + 4 * j + 1) 0) * 256 + B.getD (o + 4 * j + 2) 0) * 256 + B.getD (o + 4 * j + 3) 0
def Byt (x : Int) : Prop := 0 ≤ x ∧ x ≤ 255
theorem or_bytes {a b c d : Int} (ha : Byt a) (hb : Byt b) (hc : Byt c) (hd : Byt d) : ro (ro (ro (a * 16777216) (b * 65536)) (c * 256)) d = ((a * 256 + b) * 256 + c) * 256 + d := by
  obtain ⟨a, rfl⟩ := Int.eq_ofNat_of_zero_le ha.1
  obtain ⟨b, rfl⟩ := Int.eq_ofNat_of_zero_le hb.1
  obtain ⟨c, rfl⟩ := Int.eq_ofNat_of_zero_le hc.1
  obtain ⟨d, rfl⟩ := Int.eq_ofNat_of_zero_le hd.1
  have ha := ha.2; have hb := hb.2; have hc := hc.2; have hd := hd.2
  unfold ro
  rw [show ((a : Int) * 16777216).toNat = 2 ^ 24 * a by omega, show ((b : Int) * 65536).toNat = b * 65536 by omega, show ((c : Int) * 256).toNat = c * 256 by omega]
  simp only [Int.toNat_natCast]
  rw [← Nat.two_pow_add_eq_or_of_lt (i := 24) (b := b * 65536) (by omega) a, show 2 ^ 24 * a + b * 65536 = 2 ^ 16 * (a * 256 + b) by omega, ← Nat.two_pow_add_eq_or_of_lt (i := 16) (b := c * 256) (by omega),
    show 2 ^ 16 * (a * 256 + b) + c * 256 = 2 ^ 8 * ((a * 256 + b) * 256 + c) by omega, ← Nat.two_pow_add_eq_or_of_lt (i := 8) (b := d) (by omega)]
  omega
theorem getD_byt {B : List Int} (h : ∀ x ∈ B, Byt x) (i : Nat) : Byt (B.getD i 0) := by
  rw [List.getD_eq_getElem?_getD]
  rcases Nat.lt_or_ge i B.length with hi | hi
  · rw [List.getElem?_eq_getElem hi]; exact h _ (List.getElem_mem hi)
  · rw [List.getElem?_eq_none hi]; exact ⟨by decide, by decide⟩
theorem getD_W32 {B : List Int} (h : ∀ x ∈ B, W32 x) (i : Nat) : W32 (B.getD i 0) := by
  rw [List.getD_eq_getElem?_getD]
  rcases Nat.lt_or_ge i B.length with hi | hi
  · rw [List.getElem?_eq_getElem hi]; exact h _ (List.getElem_mem hi)
  · rw [List.getElem?_eq_none hi]; exact ⟨by decide, by decide⟩
theorem wd_W32 {B : List Int} (h : ∀ x ∈ B, Byt x) (o j : Nat) : W32 (wd B o j) := by
  have h0 := getD_byt h (o + 4 * j)
  have h1 := getD_byt h (o + 4 * j + 1)
  have h2 := getD_byt h (o + 4 * j + 2)
  have h3 := getD_byt h (o + 4 * j + 3)
  unfold Byt at h0 h1 h2 h3
  unfold wd W32
  omega
theorem wd_bits {B : List Int} (h : ∀ x ∈ B, Byt x) (o j : Nat) : bits BinOp.or IntKind.u32 (bits BinOp.or IntKind.u32 (bits BinOp.or IntKind.u32 (IntKind.u32.wrap (IntKind.u32.wrap (B.getD (o + (4 * (j : Int)).toNat) 0) * 16777216))
    (IntKind.u32.wrap (IntKind.u32.wrap (B.getD (o + (4 * (j : Int) + 1).toNat) 0) * 65536))) (IntKind.u32.wrap (IntKind.u32.wrap (B.getD (o + (4 * (j : Int) + 2).toNat) 0) * 256))) (IntKind.u32.wrap (B.getD (o + (4 * (j : Int) + 3).toNat) 0)) = wd B o j := by
  rw [show o + (4 * (j : Int)).toNat = o + 4 * j by omega, show o + (4 * (j : Int) + 1).toNat = o + 4 * j + 1 by omega, show o + (4 * (j : Int) + 2).toNat = o + 4 * j + 2 by omega, show o + (4 * (j : Int) + 3).toNat = o + 4 * j + 3 by omega]
  have h0 := getD_byt h (o + 4 * j)
  have h1 := getD_byt h (o + 4 * j + 1)
  have h2 := getD_byt h (o + 4 * j + 2)
  have h3 := getD_byt h (o + 4 * j + 3)
  unfold wd
  generalize B.getD (o + 4 * j) 0 = a at *
  generalize B.getD (o + 4 * j + 1) 0 = b at *
  generalize B.getD (o + 4 * j + 2) 0 = c at *
  generalize B.getD (o + 4 * j + 3) 0 = d at *
  have e := or_bytes h0 h1 h2 h3
  unfold Byt at h0 h1 h2 h3
  rw [wrap_u32, wrap_u32, wrap_u32, wrap_u32, wrap_u32, wrap_u32, wrap_u32, Int.emod_eq_of_lt (a := a) (by omega) (by omega), Int.emod_eq_of_lt (a := b) (by omega) (by omega), Int.emod_eq_of_lt (a := c) (by omega) (by omega), Int.emod_eq_of_lt (a := d) (by omega) (by omega),
    Int.emod_eq_of_lt (a := a * 16777216) (by omega) (by omega), Int.emod_eq_of_lt (a := b * 65536) (by omega) (by omega), Int.emod_eq_of_lt (a := c * 256) (by omega) (by omega)]
  have wa : W32 (a * 16777216) := ⟨by omega, by omega⟩
  have wb : W32 (b * 65536) := ⟨by omega, by omega⟩
  have wc : W32 (c * 256) := ⟨by omega, by omega⟩
  have wdd : W32 d := ⟨by omega, by omega⟩
  rw [or_u32 wa wb, or_u32 (wa.ro wb) wc, or_u32 ((wa.ro wb).ro wc) wdd, e]
theorem set_fill {P : List Int} {n i : Nat} {v : Int} (h : P.length = i) : (P ++ List.replicate (n + 1) 0).set i v = (P ++ [v]) ++ List.replicate n 0 := by
  subst h
  rw [List.set_append_right _ _ (Nat.le_refl _), Nat.sub_self, List.replicate_succ, List.set_cons_zero, List.append_assoc]; rfl
/-- The block's own words. -/
def wds (B : List Int) (o n : Nat) : List Int := (List.range n).map (wd B o)
theorem wds_succ (B : List Int) (o n : Nat) : wds B o (n + 1) = wds B o n ++ [wd B o n] := by unfold wds; rw [List.range_succ, List.map_append]; rfl
theorem wds_len (B : List Int) (o n : Nat) : (wds B o n).length = n := by simp [wds]
/-- One word more. -/
def wnx (W : List Int) : Int := w32 (sg1 (W.getD (W.length - 2) 0) + W.getD (W.length - 7) 0 + sg0 (W.getD (W.length - 15) 0) + W.getD (W.length - 16) 0)
def wgr : Nat → List Int → List Int
  | 0, W => W
  | n + 1, W => wgr n (W ++ [wnx W])
theorem wgr_len : ∀ (n : Nat) (W : List Int), (wgr n W).length = W.length + n
  | 0, W => rfl
  | n + 1, W => by rw [wgr, wgr_len n, List.length_append]; simp; omega
theorem wgr_W32 : ∀ (n : Nat) (W : List Int), (∀ x ∈ W, W32 x) → ∀ x ∈ wgr n W, W32 x
  | 0, W, h => h
  | n + 1, W, h => wgr_W32 n _ fun x hx => by
    rcases List.mem_append.1 hx with hx | hx
    · exact h x hx
    · rw [List.mem_singleton.1 hx]; exact W32.w _
/-- All words of a block. -/
def sch (B : List Int) (o : Nat) : List Int := wgr 48 (wds B o 16)
theorem sch_len (B : List Int) (o : Nat) : (sch B o).length = 64 := by rw [sch, wgr_len, wds_len]
theorem sch_W32 {B : List Int} (h : ∀ x ∈ B, Byt x) (o : Nat) : ∀ x ∈ sch B o, W32 x := wgr_W32 _ _ fun x hx => by
  obtain ⟨j, _, rfl⟩ := List.mem_map.1 hx
  exact wd_W32 h o j
theorem loopW1 (N o c : Nat) (B : List Int) (hB : ∀ x ∈ B, Byt x) (ho : o + 64 ≤ N) : ∀ (m i : Nat), i + m = 16 →
    LoopT Try.prog Try.f102.ntmps 1 (loopOf Try.f102 0) (zipS liveW1 [pt 1, slV 0 o 64 c, w63 i]) [rU N B, oW 64 (wds B o i ++ List.replicate (64 - i) 0)] (.exit 0)
      (zipS liveW1 [pt 1, slV 0 o 64 c, w63 16]) [rU N B, oW 64 (wds B o 16 ++ List.replicate 48 0)] := by
  intro m
  induction m with
  | zero =>
    intro i hi
    obtain rfl : i = 16 := hi
    exact LoopT.last (by simp) (CodeT.out (S := (mkS []).on [(8, false)]) mk0 noL_ok (fun on out => pW1x N o c B _ on out))
  | succ m ih =>
    intro i hi
    have h := ih (i + 1) (by omega)
    rw [wds_succ, show 64 - (i + 1) = 63 - i by omega, ← set_fill (wds_len B o i), show 63 - i + 1 = 64 - i by omega, ← wd_bits hB] at h
    exact LoopT.step (CodeT.on (S := (mkS []).on [(8, true)]) mk0 noL_ok (fun on out => pW1 N o c i B _ on out)) h
theorem getD_app {W Z : List Int} {j : Nat} (h : j < W.length) : (W ++ Z).getD j 0 = W.getD j 0 := by
  rw [List.getD_eq_getElem?_getD, List.getElem?_append_left h, ← List.getD_eq_getElem?_getD]
theorem loopW2 (N : Nat) (B : List Int) : ∀ (m : Nat) (W : List Int), W.length + m = 64 → 16 ≤ W.length → (∀ x ∈ W, W32 x) →
    LoopT Try.prog Try.f102.ntmps 1 (loopOf Try.f102 1) (zipS liveW2 [pt 1, w63 W.length]) [rU N B, oW 64 (W ++ List.replicate m 0)] (.exit 2) (zipS liveW2 [pt 1, w63 64]) [rU N B, oW 64 (wgr m W)] := by
  intro m
  induction m with
  | zero =>
    intro W hi h1 h2
    rw [List.replicate_zero, List.append_nil, show W.length = 64 by omega]
    exact LoopT.last (by simp) (CodeT.out (S := (mkS []).on [(47, false)]) mk0 noL_ok (fun on out => pW2x N B _ on out))
  | succ m ih =>
    intro W hi h1 h2
    have h := ih (W ++ [wnx W]) (by rw [List.length_append]; simp; omega) (by rw [List.length_append]; omega) (fun x hx => by
      rcases List.mem_append.1 hx with hx | hx
      · exact h2 x hx
      · rw [List.mem_singleton.1 hx]; exact W32.w _)
    rw [show (W ++ [wnx W]).length = W.length + 1 by simp, ← set_fill rfl] at h
    have e : ∀ k : Nat, k ≤ 16 → 1 ≤ k → (W ++ List.replicate (m + 1) 0).getD ((W.length : Int) - (k : Int)).toNat 0 = W.getD (W.length - k) 0 := fun k hk hk1 => by
      rw [show ((W.length : Int) - (k : Int)).toNat = W.length - k by omega, getD_app (by omega)]
    have e2 : (W ++ List.replicate (m + 1) 0).getD ((W.length : Int) - 2).toNat 0 = W.getD (W.length - 2) 0 := e 2 (by omega) (by omega)
    have e7 : (W ++ List.replicate (m + 1) 0).getD ((W.length : Int) - 7).toNat 0 = W.getD (W.length - 7) 0 := e 7 (by omega) (by omega)
    have e15 : (W ++ List.replicate (m + 1) 0).getD ((W.length : Int) - 15).toNat 0 = W.getD (W.length - 15) 0 := e 15 (by omega) (by omega)
    have e16 : (W ++ List.replicate (m + 1) 0).getD ((W.length : Int) - 16).toNat 0 = W.getD (W.length - 16) 0 := e 16 (by omega) (by omega)
    have w2 := getD_W32 h2 (W.length - 2)
    have w7 := getD_W32 h2 (W.length - 7)
    have w15 := getD_W32 h2 (W.length - 15)
    have w16 := getD_W32 h2 (W.length - 16)
    refine LoopT.step (CodeT.on (S := SW.on [(47, true)]) SW_ok noL_ok (fun on out => ?_)) h
    have p := @pW2 N W.length B (W ++ List.replicate (m + 1) 0) on out
    simp only [autoParam] at p
    rw [e2, e7, e15, e16] at p
    rw [p (by omega) (by omega) (by omega) (by omega) (by omega) (by omega) (by omega) (by omega) (by omega) (by omega) (by omega) (by omega) (by omega) (by omega) (by omega) (by omega) (by omega) (by omega) ⟨w15, by omega, by omega⟩ ⟨w15, by omega, by omega⟩ ⟨w2, by omega, by omega⟩ ⟨w2, by omega, by omega⟩ (by omega) (by omega)]
    have f8 : (W.getD (W.length - 15) 0).fdiv 8 = W.getD (W.length - 15) 0 / 2 ^ 3 := Int.fdiv_eq_ediv_of_nonneg _ (by decide)
    have f10 : (W.getD (W.length - 2) 0).fdiv 1024 = W.getD (W.length - 2) 0 / 2 ^ 10 := Int.fdiv_eq_ediv_of_nonneg _ (by decide)
    rw [f8, f10, xor_u32 (w15.rotr (by decide)) (w15.rotr (by decide)), xor_u32 ((w15.rotr (by decide)).xo (w15.rotr (by decide))) (w15.shr 3), xor_u32 (w2.rotr (by decide)) (w2.rotr (by decide)), xor_u32 ((w2.rotr (by decide)).xo (w2.rotr (by decide))) (w2.shr 10)]
    have e : IntKind.u32.wrap (IntKind.u32.wrap (IntKind.u32.wrap (W.getD (W.length - 16) 0 + W.getD (W.length - 7) 0) + sg0 (W.getD (W.length - 15) 0)) + sg1 (W.getD (W.length - 2) 0)) = wnx W := by
      rw [wrap_u32, wrap_u32, wrap_u32]
      unfold wnx w32
      omega
    rw [← e]
    rfl
/-- A list written out. -/
def lst (n : Nat) (W : List Int) : List Int := (List.range n).map fun j => W.getD j 0
theorem lst_eq {n : Nat} {W : List Int} (h : W.length = n) : lst n W = W := by
  subst h
  apply List.ext_getElem?
  intro i
  rw [lst, List.getElem?_map]
  rcases Nat.lt_or_ge i W.length with hi | hi
  · rw [List.getElem?_range hi, Option.map_some, List.getD_eq_getElem?_getD, List.getElem?_eq_getElem hi]; rfl
  · rw [List.getElem?_eq_none (by simpa using hi), List.getElem?_eq_none hi]; rfl
noncomputable def LW1f : LF := fun vs h k => match vs, h with
  | [.pointer (some ⟨1, 0, none⟩), .slice (some ⟨0, o, none⟩) 64 c, .int .i64 0], [some ⟨false, 1, [.ints .u8 N B]⟩, some ⟨true, 64, [.ints .u32 64 A]⟩] =>
    bif chk (A = List.replicate 64 0 ∧ o + 64 ≤ N) then k (.exit 0) [pt 1, slV 0 o 64 c, w63 16] [rU N B, oW 64 (wds B o 16 ++ List.replicate 48 0)] else none
  | _, _ => none
noncomputable def LW2f : LF := fun vs h k => match vs, h with
  | [.pointer (some ⟨1, 0, none⟩), .int .i64 16], [some ⟨false, 1, [.ints .u8 N B]⟩, some ⟨true, 64, [.ints .u32 64 A]⟩] =>
    bif chk (A.drop 16 = List.replicate 48 0 ∧ (A.take 16).length = 16 ∧ ∀ x ∈ A.take 16, W32 x) then k (.exit 2) [pt 1, w63 64] [rU N B, oW 64 (lst 64 (wgr 48 (A.take 16)))] else none
  | _, _ => none
theorem loopOKW1 : LoopOK Try.prog Try.f102.ntmps 1 (loopOf Try.f102 0) liveW1 LW1f := by
  refine LoopOK.of_T ?_
  intro vs h k out hk
  unfold LW1f at hk
  split at hk
  · obtain ⟨hb, hk2⟩ := bif_t hk
    obtain ⟨rfl, h2⟩ := chk_iff.1 hb
    refine ⟨_, _, _, hk2, fun real => ?_⟩
    have r1 := (real.segs (i := 0) rfl) _ (List.mem_cons_self ..)
    have e : IntKind.u8.max = 255 := by decide
    exact loopW1 _ _ _ _ (fun x hx => ⟨(r1.2 x hx).1, e ▸ (r1.2 x hx).2⟩) h2 16 0 rfl
  · cases hk
theorem loopOKW2 : LoopOK Try.prog Try.f102.ntmps 1 (loopOf Try.f102 1) liveW2 LW2f := by
  refine LoopOK.of_T ?_
  intro vs h k out hk
  unfold LW2f at hk
  split at hk
  · obtain ⟨hb, hk2⟩ := bif_t hk
    obtain ⟨h1, h2, h3⟩ := chk_iff.1 hb
    rename_i N B A
    refine ⟨_, _, _, hk2, fun _ => ?_⟩
    have := loopW2 N B 48 (A.take 16) (by omega) (by omega) h3
    rw [← h1, List.take_append_drop, h2] at this
    rw [lst_eq (by rw [wgr_len]; omega)]
    exact this
  · cases hk
noncomputable def LW : LSpec := manyL [(2, liveW1, LW1f), (7, liveW2, LW2f)]
theorem loopsW : LoopsOK Try.prog LW Try.f102.ntmps 1 (bodyOf Try.f102) :=
  LsOK.all (bs := [loopOf Try.f102 0, loopOf Try.f102 1]) (by kernel_rfl) (LsOK.cons (by kernel_rfl) loopOKW1 (LsOK.cons (by kernel_rfl) loopOKW2 LsOK.nil))
/-- Words side by side, as a value. -/
def aggW (n : Nat) (W : List Int) : Value := .agg ⟨(List.range n).map fun j => w32v (W.getD j 0)⟩
theorem cWds (N o c : Nat) (B : List Int) : fnK Try.prog (mkS []) LW Try.f102 [slV 0 o 64 c] [rU N B] =
    (bif chk (List.replicate 64 (0 : Int) = List.replicate 64 0 ∧ o + 64 ≤ N) then bif chk ((wds B o 16 ++ List.replicate 48 0).drop 16 = List.replicate 48 0 ∧ ((wds B o 16 ++ List.replicate 48 0).take 16).length = 16 ∧ ∀ x ∈ (wds B o 16 ++ List.replicate 48 0).take 16, W32 x) then
      some (Res.ret (aggW 64 (wgr 48 ((wds B o 16 ++ List.replicate 48 0).take 16))) [rU N B]) else none else none) := by kernel_rfl
end Go.Proofs.Ytcjjngdkkihgjaa.VC
