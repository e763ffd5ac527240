/- SHA-256: the document's sum, whole. -/
import Derived.Test.YtcjjngdkkihgjaaSHA
namespace Go.Proofs.Ytcjjngdkkihgjaa.VC
open Go Go.Proofs

noncomputable abbrev bR4 : Code := ((loops (loopOf Try.f35 0))[3]?).getD .skip
def liveR4 : List Nat := [2, 3, 4, 5, 6, 11, 15]
--CP pR4 (n K p q : Nat) (B A KK : List Int) (a b c d e f g h s t u v w x y z : Int) :: loopN Try.prog (mkS []) noL Try.f35.ntmps 1 bR4 liveR4 9 [.slice none 0 0, sl 1 K 1, sl 2 8 0, sl 3 64 0, w63 p, sl 4 8 q, w63 0] [rU n B, oU K A, oI 8 [s, t, u, v, w, x, y, z], oI 64 KK, oI 8 [a, b, c, d, e, f, g, h]] (fun e vs h => some (.at e (zipS liveR4 vs) h))
theorem pR4 (n K p q : Nat) (B A KK : List Int) (a b c d e f g h s t u v w x y z : Int)
    (w1 : -9223372036854775808 ≤ s + a ∧ s + a ≤ 9223372036854775807 := by omega)
    (w2 : -9223372036854775808 ≤ t + b ∧ t + b ≤ 9223372036854775807 := by omega)
    (w3 : -9223372036854775808 ≤ u + c ∧ u + c ≤ 9223372036854775807 := by omega)
    (w4 : -9223372036854775808 ≤ v + d ∧ v + d ≤ 9223372036854775807 := by omega)
    (w5 : -9223372036854775808 ≤ w + e ∧ w + e ≤ 9223372036854775807 := by omega)
    (w6 : -9223372036854775808 ≤ x + f ∧ x + f ≤ 9223372036854775807 := by omega)
    (w7 : -9223372036854775808 ≤ y + g ∧ y + g ≤ 9223372036854775807 := by omega)
    (w8 : -9223372036854775808 ≤ z + h ∧ z + h ≤ 9223372036854775807 := by omega) : loopN Try.prog (mkS []) noL Try.f35.ntmps 1 bR4 liveR4 9 [.slice none 0 0, sl 1 K 1, sl 2 8 0, sl 3 64 0, w63 p, sl 4 8 q, w63 0] [rU n B, oU K A, oI 8 [s, t, u, v, w, x, y, z], oI 64 KK, oI 8 [a, b, c, d, e, f, g, h]] (fun e vs h => some (.at e (zipS liveR4 vs) h)) =
     (some (Res.at (Exit.exit (8 : Nat)) [((2 : Nat), some (Value.slice none (0 : Nat) (0 : Nat))), ((3 : Nat), some (Value.slice (some (Addr.mk (1 : Nat) (0 : Nat) none)) K (1 : Nat))), ((4 : Nat), some
     (Value.slice (some (Addr.mk (2 : Nat) (0 : Nat) none)) (8 : Nat) (0 : Nat))), ((5 : Nat), some (Value.slice (some (Addr.mk (3 : Nat) (0 : Nat) none)) (64 : Nat) (0 : Nat))), ((6 : Nat), some
     (Value.int IntKind.i64 (↑p : Int))), ((11 : Nat), some (Value.slice (some (Addr.mk (4 : Nat) (0 : Nat) none)) (8 : Nat) q)), ((15 : Nat), some (Value.int IntKind.i64 (8 : Int)))] [some (Blk.mk false
     (1 : Nat) [Seg.ints IntKind.u8 n B]), some (Blk.mk true (1 : Nat) [Seg.ints IntKind.u8 K A]), some (Blk.mk true (1 : Nat) [Seg.ints IntKind.i64 (8 : Nat) [(s + a).tmod (4294967296 : Int), (t + b).tmod
     (4294967296 : Int), (u + c).tmod (4294967296 : Int), (v + d).tmod (4294967296 : Int), (w + e).tmod (4294967296 : Int), (x + f).tmod (4294967296 : Int), (y + g).tmod (4294967296 : Int), (z + h).tmod
     (4294967296 : Int)]]), some (Blk.mk true (1 : Nat) [Seg.ints IntKind.i64 (64 : Nat) KK]), some (Blk.mk true (1 : Nat) [Seg.ints IntKind.i64 (8 : Nat) [a, b, c, d, e, f, g, h]])])) :=
  Eq.trans (b :=
     some (Res.at (Exit.exit (8 : Nat)) [((2 : Nat), some (Value.slice none (0 : Nat) (0 : Nat))), ((3 : Nat), some (Value.slice (some (Addr.mk (1 : Nat) (0 : Nat) none)) K (1 : Nat))), ((4 : Nat), some
     (Value.slice (some (Addr.mk (2 : Nat) (0 : Nat) none)) (8 : Nat) (0 : Nat))), ((5 : Nat), some (Value.slice (some (Addr.mk (3 : Nat) (0 : Nat) none)) (64 : Nat) (0 : Nat))), ((6 : Nat), some
     (Value.int IntKind.i64 (↑p : Int))), ((11 : Nat), some (Value.slice (some (Addr.mk (4 : Nat) (0 : Nat) none)) (8 : Nat) q)), ((15 : Nat), some (Value.int IntKind.i64 (8 : Int)))] [some (Blk.mk false
     (1 : Nat) [Seg.ints IntKind.u8 n B]), some (Blk.mk true (1 : Nat) [Seg.ints IntKind.u8 K A]), some (Blk.mk true (1 : Nat) [Seg.ints IntKind.i64 (8 : Nat) [(IntKind.i64.wrap (s + a)).tmod (4294967296 :
     Int), (IntKind.i64.wrap (t + b)).tmod (4294967296 : Int), (IntKind.i64.wrap (u + c)).tmod (4294967296 : Int), (IntKind.i64.wrap (v + d)).tmod (4294967296 : Int), (IntKind.i64.wrap (w + e)).tmod
     (4294967296 : Int), (IntKind.i64.wrap (x + f)).tmod (4294967296 : Int), (IntKind.i64.wrap (y + g)).tmod (4294967296 : Int), (IntKind.i64.wrap (z + h)).tmod (4294967296 : Int)]]), some (Blk.mk true (1
     : Nat) [Seg.ints IntKind.i64 (64 : Nat) KK]), some (Blk.mk true (1 : Nat) [Seg.ints IntKind.i64 (8 : Nat) [a, b, c, d, e, f, g, h]])])) (by kernel_rfl) (by simp only [-eq_self, swrap w1.1 w1.2, swrap w2.1 w2.2, swrap w3.1 w3.2, swrap w4.1 w4.2, swrap w5.1 w5.2, swrap w6.1 w6.2, swrap w7.1 w7.2, swrap w8.1 w8.2]; exact rfl)
--CFEND
def liveRF : List Nat := [2, 4, 16, 17]
--CP pRF (n : Nat) (B : List Int) (s t u v w x y z : Int) :: loopN Try.prog STwo noL Try.f35.ntmps 1 (loopOf Try.f35 1) liveRF 9 [.slice none 0 0, sl 1 8 0, .slice none 0 0, w63 0] [rU n B, oI 8 [s, t, u, v, w, x, y, z]] (fun e vs h => some (.at e (zipS liveRF vs) h))
theorem pRF (n : Nat) (B : List Int) (s t u v w x y z : Int)
    (w1 : -9223372036854775808 ≤ s.tdiv (16777216 : Int) ∧ s.tdiv (16777216 : Int) ≤ 9223372036854775807 := by omega)
    (w2 : -9223372036854775808 ≤ s.tdiv (65536 : Int) ∧ s.tdiv (65536 : Int) ≤ 9223372036854775807 := by omega)
    (w3 : -9223372036854775808 ≤ s.tdiv (256 : Int) ∧ s.tdiv (256 : Int) ≤ 9223372036854775807 := by omega)
    (w4 : -9223372036854775808 ≤ t.tdiv (16777216 : Int) ∧ t.tdiv (16777216 : Int) ≤ 9223372036854775807 := by omega)
    (w5 : -9223372036854775808 ≤ t.tdiv (65536 : Int) ∧ t.tdiv (65536 : Int) ≤ 9223372036854775807 := by omega)
    (w6 : -9223372036854775808 ≤ t.tdiv (256 : Int) ∧ t.tdiv (256 : Int) ≤ 9223372036854775807 := by omega)
    (w7 : -9223372036854775808 ≤ u.tdiv (16777216 : Int) ∧ u.tdiv (16777216 : Int) ≤ 9223372036854775807 := by omega)
    (w8 : -9223372036854775808 ≤ u.tdiv (65536 : Int) ∧ u.tdiv (65536 : Int) ≤ 9223372036854775807 := by omega)
    (w9 : -9223372036854775808 ≤ u.tdiv (256 : Int) ∧ u.tdiv (256 : Int) ≤ 9223372036854775807 := by omega)
    (w10 : -9223372036854775808 ≤ v.tdiv (16777216 : Int) ∧ v.tdiv (16777216 : Int) ≤ 9223372036854775807 := by omega)
    (w11 : -9223372036854775808 ≤ v.tdiv (65536 : Int) ∧ v.tdiv (65536 : Int) ≤ 9223372036854775807 := by omega)
    (w12 : -9223372036854775808 ≤ v.tdiv (256 : Int) ∧ v.tdiv (256 : Int) ≤ 9223372036854775807 := by omega)
    (w13 : -9223372036854775808 ≤ w.tdiv (16777216 : Int) ∧ w.tdiv (16777216 : Int) ≤ 9223372036854775807 := by omega)
    (w14 : -9223372036854775808 ≤ w.tdiv (65536 : Int) ∧ w.tdiv (65536 : Int) ≤ 9223372036854775807 := by omega)
    (w15 : -9223372036854775808 ≤ w.tdiv (256 : Int) ∧ w.tdiv (256 : Int) ≤ 9223372036854775807 := by omega)
    (w16 : -9223372036854775808 ≤ x.tdiv (16777216 : Int) ∧ x.tdiv (16777216 : Int) ≤ 9223372036854775807 := by omega)
    (w17 : -9223372036854775808 ≤ x.tdiv (65536 : Int) ∧ x.tdiv (65536 : Int) ≤ 9223372036854775807 := by omega)
    (w18 : -9223372036854775808 ≤ x.tdiv (256 : Int) ∧ x.tdiv (256 : Int) ≤ 9223372036854775807 := by omega)
    (w19 : -9223372036854775808 ≤ y.tdiv (16777216 : Int) ∧ y.tdiv (16777216 : Int) ≤ 9223372036854775807 := by omega)
    (w20 : -9223372036854775808 ≤ y.tdiv (65536 : Int) ∧ y.tdiv (65536 : Int) ≤ 9223372036854775807 := by omega)
    (w21 : -9223372036854775808 ≤ y.tdiv (256 : Int) ∧ y.tdiv (256 : Int) ≤ 9223372036854775807 := by omega)
    (w22 : -9223372036854775808 ≤ z.tdiv (16777216 : Int) ∧ z.tdiv (16777216 : Int) ≤ 9223372036854775807 := by omega)
    (w23 : -9223372036854775808 ≤ z.tdiv (65536 : Int) ∧ z.tdiv (65536 : Int) ≤ 9223372036854775807 := by omega)
    (w24 : -9223372036854775808 ≤ z.tdiv (256 : Int) ∧ z.tdiv (256 : Int) ≤ 9223372036854775807 := by omega)
    (h1 : (0 : Int) ≤ (24 : Int) ∧ (24 : Int) ≤ (62 : Int) := by first | omega | assumption | rfl | ((repeat' with_reducible apply And.intro) <;> first | rfl | assumption | omega))
    (h2 : (0 : Int) ≤ (16 : Int) ∧ (16 : Int) ≤ (62 : Int) := by first | omega | assumption | rfl | ((repeat' with_reducible apply And.intro) <;> first | rfl | assumption | omega))
    (h3 : (0 : Int) ≤ (8 : Int) ∧ (8 : Int) ≤ (62 : Int) := by first | omega | assumption | rfl | ((repeat' with_reducible apply And.intro) <;> first | rfl | assumption | omega)) : loopN Try.prog STwo noL Try.f35.ntmps 1 (loopOf Try.f35 1) liveRF 9 [.slice none 0 0, sl 1 8 0, .slice none 0 0, w63 0] [rU n B, oI 8 [s, t, u, v, w, x, y, z]] (fun e vs h => some (.at e (zipS liveRF vs) h)) =
     (some (Res.at (Exit.exit (10 : Nat)) [((2 : Nat), some (Value.slice none (0 : Nat) (0 : Nat))), ((4 : Nat), some (Value.slice (some (Addr.mk (1 : Nat) (0 : Nat) none)) (8 : Nat) (0 : Nat))), ((16 :
     Nat), some (Value.slice (some (Addr.mk (2 : Nat) (0 : Nat) none)) (32 : Nat) (1 : Nat))), ((17 : Nat), some (Value.int IntKind.i64 (8 : Int)))] [some (Blk.mk false (1 : Nat) [Seg.ints IntKind.u8 n
     B]), some (Blk.mk true (1 : Nat) [Seg.ints IntKind.i64 (8 : Nat) [s, t, u, v, w, x, y, z]]), some (Blk.mk true (1 : Nat) [Seg.ints IntKind.u8 (32 : Nat) [IntKind.u8.wrap (s.tdiv (16777216 : Int)),
     IntKind.u8.wrap ((s.tdiv (65536 : Int)).tmod (256 : Int)), IntKind.u8.wrap ((s.tdiv (256 : Int)).tmod (256 : Int)), IntKind.u8.wrap (s.tmod (256 : Int)), IntKind.u8.wrap (t.tdiv (16777216 : Int)),
     IntKind.u8.wrap ((t.tdiv (65536 : Int)).tmod (256 : Int)), IntKind.u8.wrap ((t.tdiv (256 : Int)).tmod (256 : Int)), IntKind.u8.wrap (t.tmod (256 : Int)), IntKind.u8.wrap (u.tdiv (16777216 : Int)),
     IntKind.u8.wrap ((u.tdiv (65536 : Int)).tmod (256 : Int)), IntKind.u8.wrap ((u.tdiv (256 : Int)).tmod (256 : Int)), IntKind.u8.wrap (u.tmod (256 : Int)), IntKind.u8.wrap (v.tdiv (16777216 : Int)),
     IntKind.u8.wrap ((v.tdiv (65536 : Int)).tmod (256 : Int)), IntKind.u8.wrap ((v.tdiv (256 : Int)).tmod (256 : Int)), IntKind.u8.wrap (v.tmod (256 : Int)), IntKind.u8.wrap (w.tdiv (16777216 : Int)),
     IntKind.u8.wrap ((w.tdiv (65536 : Int)).tmod (256 : Int)), IntKind.u8.wrap ((w.tdiv (256 : Int)).tmod (256 : Int)), IntKind.u8.wrap (w.tmod (256 : Int)), IntKind.u8.wrap (x.tdiv (16777216 : Int)),
     IntKind.u8.wrap ((x.tdiv (65536 : Int)).tmod (256 : Int)), IntKind.u8.wrap ((x.tdiv (256 : Int)).tmod (256 : Int)), IntKind.u8.wrap (x.tmod (256 : Int)), IntKind.u8.wrap (y.tdiv (16777216 : Int)),
     IntKind.u8.wrap ((y.tdiv (65536 : Int)).tmod (256 : Int)), IntKind.u8.wrap ((y.tdiv (256 : Int)).tmod (256 : Int)), IntKind.u8.wrap (y.tmod (256 : Int)), IntKind.u8.wrap (z.tdiv (16777216 : Int)),
     IntKind.u8.wrap ((z.tdiv (65536 : Int)).tmod (256 : Int)), IntKind.u8.wrap ((z.tdiv (256 : Int)).tmod (256 : Int)), IntKind.u8.wrap (z.tmod (256 : Int))]])])) :=
  Eq.trans (b :=
     bif chk ((0 : Int) ≤ (24 : Int) ∧ (24 : Int) ≤ (62 : Int)) then bif chk ((0 : Int) ≤ (16 : Int) ∧ (16 : Int) ≤ (62 : Int)) then bif chk ((0 : Int) ≤ (8 : Int) ∧ (8 : Int) ≤ (62 : Int)) then bif chk
     ((0 : Int) ≤ (24 : Int) ∧ (24 : Int) ≤ (62 : Int)) then bif chk ((0 : Int) ≤ (16 : Int) ∧ (16 : Int) ≤ (62 : Int)) then bif chk ((0 : Int) ≤ (8 : Int) ∧ (8 : Int) ≤ (62 : Int)) then bif chk ((0 : Int)
     ≤ (24 : Int) ∧ (24 : Int) ≤ (62 : Int)) then bif chk ((0 : Int) ≤ (16 : Int) ∧ (16 : Int) ≤ (62 : Int)) then bif chk ((0 : Int) ≤ (8 : Int) ∧ (8 : Int) ≤ (62 : Int)) then bif chk ((0 : Int) ≤ (24 :
     Int) ∧ (24 : Int) ≤ (62 : Int)) then bif chk ((0 : Int) ≤ (16 : Int) ∧ (16 : Int) ≤ (62 : Int)) then bif chk ((0 : Int) ≤ (8 : Int) ∧ (8 : Int) ≤ (62 : Int)) then bif chk ((0 : Int) ≤ (24 : Int) ∧ (24
     : Int) ≤ (62 : Int)) then bif chk ((0 : Int) ≤ (16 : Int) ∧ (16 : Int) ≤ (62 : Int)) then bif chk ((0 : Int) ≤ (8 : Int) ∧ (8 : Int) ≤ (62 : Int)) then bif chk ((0 : Int) ≤ (24 : Int) ∧ (24 : Int) ≤
     (62 : Int)) then bif chk ((0 : Int) ≤ (16 : Int) ∧ (16 : Int) ≤ (62 : Int)) then bif chk ((0 : Int) ≤ (8 : Int) ∧ (8 : Int) ≤ (62 : Int)) then bif chk ((0 : Int) ≤ (24 : Int) ∧ (24 : Int) ≤ (62 :
     Int)) then bif chk ((0 : Int) ≤ (16 : Int) ∧ (16 : Int) ≤ (62 : Int)) then bif chk ((0 : Int) ≤ (8 : Int) ∧ (8 : Int) ≤ (62 : Int)) then bif chk ((0 : Int) ≤ (24 : Int) ∧ (24 : Int) ≤ (62 : Int)) then
     bif chk ((0 : Int) ≤ (16 : Int) ∧ (16 : Int) ≤ (62 : Int)) then bif chk ((0 : Int) ≤ (8 : Int) ∧ (8 : Int) ≤ (62 : Int)) then some (Res.at (Exit.exit (10 : Nat)) [((2 : Nat), some (Value.slice none (0
     : Nat) (0 : Nat))), ((4 : Nat), some (Value.slice (some (Addr.mk (1 : Nat) (0 : Nat) none)) (8 : Nat) (0 : Nat))), ((16 : Nat), some (Value.slice (some (Addr.mk (2 : Nat) (0 : Nat) none)) (32 : Nat)
     (1 : Nat))), ((17 : Nat), some (Value.int IntKind.i64 (8 : Int)))] [some (Blk.mk false (1 : Nat) [Seg.ints IntKind.u8 n B]), some (Blk.mk true (1 : Nat) [Seg.ints IntKind.i64 (8 : Nat) [s, t, u, v, w,
     x, y, z]]), some (Blk.mk true (1 : Nat) [Seg.ints IntKind.u8 (32 : Nat) [IntKind.u8.wrap (IntKind.i64.wrap (s.tdiv (16777216 : Int))), IntKind.u8.wrap ((IntKind.i64.wrap (s.tdiv (65536 : Int))).tmod
     (256 : Int)), IntKind.u8.wrap ((IntKind.i64.wrap (s.tdiv (256 : Int))).tmod (256 : Int)), IntKind.u8.wrap (s.tmod (256 : Int)), IntKind.u8.wrap (IntKind.i64.wrap (t.tdiv (16777216 : Int))),
     IntKind.u8.wrap ((IntKind.i64.wrap (t.tdiv (65536 : Int))).tmod (256 : Int)), IntKind.u8.wrap ((IntKind.i64.wrap (t.tdiv (256 : Int))).tmod (256 : Int)), IntKind.u8.wrap (t.tmod (256 : Int)),
     IntKind.u8.wrap (IntKind.i64.wrap (u.tdiv (16777216 : Int))), IntKind.u8.wrap ((IntKind.i64.wrap (u.tdiv (65536 : Int))).tmod (256 : Int)), IntKind.u8.wrap ((IntKind.i64.wrap (u.tdiv (256 :
     Int))).tmod (256 : Int)), IntKind.u8.wrap (u.tmod (256 : Int)), IntKind.u8.wrap (IntKind.i64.wrap (v.tdiv (16777216 : Int))), IntKind.u8.wrap ((IntKind.i64.wrap (v.tdiv (65536 : Int))).tmod (256 :
     Int)), IntKind.u8.wrap ((IntKind.i64.wrap (v.tdiv (256 : Int))).tmod (256 : Int)), IntKind.u8.wrap (v.tmod (256 : Int)), IntKind.u8.wrap (IntKind.i64.wrap (w.tdiv (16777216 : Int))), IntKind.u8.wrap
     ((IntKind.i64.wrap (w.tdiv (65536 : Int))).tmod (256 : Int)), IntKind.u8.wrap ((IntKind.i64.wrap (w.tdiv (256 : Int))).tmod (256 : Int)), IntKind.u8.wrap (w.tmod (256 : Int)), IntKind.u8.wrap
     (IntKind.i64.wrap (x.tdiv (16777216 : Int))), IntKind.u8.wrap ((IntKind.i64.wrap (x.tdiv (65536 : Int))).tmod (256 : Int)), IntKind.u8.wrap ((IntKind.i64.wrap (x.tdiv (256 : Int))).tmod (256 : Int)),
     IntKind.u8.wrap (x.tmod (256 : Int)), IntKind.u8.wrap (IntKind.i64.wrap (y.tdiv (16777216 : Int))), IntKind.u8.wrap ((IntKind.i64.wrap (y.tdiv (65536 : Int))).tmod (256 : Int)), IntKind.u8.wrap
     ((IntKind.i64.wrap (y.tdiv (256 : Int))).tmod (256 : Int)), IntKind.u8.wrap (y.tmod (256 : Int)), IntKind.u8.wrap (IntKind.i64.wrap (z.tdiv (16777216 : Int))), IntKind.u8.wrap ((IntKind.i64.wrap
     (z.tdiv (65536 : Int))).tmod (256 : Int)), IntKind.u8.wrap ((IntKind.i64.wrap (z.tdiv (256 : Int))).tmod (256 : Int)), IntKind.u8.wrap (z.tmod (256 : Int))]])]) else none else none else none else none
     else none else none else none else none else none else none else none else none else none else none else none else none else none else none else none else none else none else none else none else none) (by kernel_rfl) (by simp only [-eq_self, swrap w1.1 w1.2, swrap w2.1 w2.2, swrap w3.1 w3.2, swrap w4.1 w4.2, swrap w5.1 w5.2, swrap w6.1 w6.2, swrap w7.1 w7.2, swrap w8.1 w8.2, swrap w9.1 w9.2, swrap w10.1 w10.2, swrap w11.1 w11.2, swrap w12.1 w12.2, swrap w13.1 w13.2, swrap w14.1 w14.2, swrap w15.1 w15.2, swrap w16.1 w16.2, swrap w17.1 w17.2, swrap w18.1 w18.2, swrap w19.1 w19.2, swrap w20.1 w20.2, swrap w21.1 w21.2, swrap w22.1 w22.2, swrap w23.1 w23.2, swrap w24.1 w24.2]; exact (go_t (chk_t h1) (go_t (chk_t h2) (go_t (chk_t h3) (go_t (chk_t h1) (go_t (chk_t h2) (go_t (chk_t h3) (go_t (chk_t h1) (go_t (chk_t h2) (go_t (chk_t h3) (go_t (chk_t h1) (go_t (chk_t h2) (go_t (chk_t h3) (go_t (chk_t h1) (go_t (chk_t h2) (go_t (chk_t h3) (go_t (chk_t h1) (go_t (chk_t h2) (go_t (chk_t h3) (go_t (chk_t h1) (go_t (chk_t h2) (go_t (chk_t h3) (go_t (chk_t h1) (go_t (chk_t h2) (go_t (chk_t h3) rfl)))))))))))))))))))))))))
--CFEND
def liveRO : List Nat := [2, 3, 4, 5, 6]
noncomputable def LR1f : LF := fun vs h k => match vs, h with
  | [.slice none 0 0, .slice (some ⟨1, 0, none⟩) K 1, .slice (some ⟨2, 0, none⟩) 8 ch, .slice (some ⟨3, 0, none⟩) 64 ck, .int .i64 p, .slice none 0 0, .int .i64 0],
    [some ⟨false, 1, [.ints .u8 n B]⟩, some ⟨true, 1, [.ints .u8 K2 A]⟩, some ⟨true, 1, [.ints .i64 8 H]⟩, some ⟨true, 1, [.ints .i64 64 KK]⟩] =>
    bif chk (K2 = K ∧ 0 ≤ p ∧ p.toNat + 64 ≤ K ∧ K ≤ 100000) then k (.exit 2) (stR1 K ch ck p.toNat 16) (hpR n K B A H KK 16 (opq (wds A p.toNat 16))) else none
  | _, _ => none
noncomputable def LR2f : LF := fun vs h k => match vs, h with
  | [.slice none 0 0, .slice (some ⟨1, 0, none⟩) K 1, .slice (some ⟨2, 0, none⟩) 8 ch, .slice (some ⟨3, 0, none⟩) 64 ck, .int .i64 p, .slice (some ⟨4, 0, none⟩) 16 1, .int .i64 16],
    [some ⟨false, 1, [.ints .u8 n B]⟩, some ⟨true, 1, [.ints .u8 K2 A]⟩, some ⟨true, 1, [.ints .i64 8 H]⟩, some ⟨true, 1, [.ints .i64 64 KK]⟩, some ⟨true, 1, [.ints .i64 16 W]⟩] =>
    bif chk (K2 = K ∧ 0 ≤ p ∧ ∀ x ∈ W, W32 x) then k (.exit 4) (stR2 K ch ck p.toNat 64) (hpR n K B A H KK 64 (opq (wgr 48 W))) else none
  | _, _ => none
noncomputable def LR3f : LF := fun vs h k => match vs, h with
  | [.slice none 0 0, .slice (some ⟨1, 0, none⟩) K 1, .slice (some ⟨2, 0, none⟩) 8 ch, .slice (some ⟨3, 0, none⟩) 64 ck, .int .i64 p, .slice (some ⟨4, 0, none⟩) 64 1, .slice (some ⟨5, 0, none⟩) 8 q, .int .i64 0],
    [some ⟨false, 1, [.ints .u8 n B]⟩, some ⟨true, 1, [.ints .u8 K2 A]⟩, some ⟨true, 1, [.ints .i64 8 H]⟩, some ⟨true, 1, [.ints .i64 64 KK]⟩, some ⟨true, 1, [.ints .i64 64 W]⟩, some ⟨true, 1, [.ints .i64 8 V]⟩] =>
    bif chk (K2 = K ∧ 0 ≤ p ∧ q ≤ 2 ∧ (∀ x ∈ KK, W32 x) ∧ (∀ x ∈ W, W32 x) ∧ ∀ x ∈ V, W32 x) then k (.exit 6) (stR3 K ch ck p.toNat 0 64) (hpR3 n K B A H KK W (opq (rnds W KK 64 0 V))) else none
  | _, _ => none
noncomputable def LR4f : LF := fun vs h k => match vs, h with
  | [.slice none 0 0, .slice (some ⟨1, 0, none⟩) K 1, .slice (some ⟨2, 0, none⟩) 8 0, .slice (some ⟨3, 0, none⟩) 64 0, .int .i64 p, .slice (some ⟨4, 0, none⟩) 8 q, .int .i64 0],
    [some ⟨false, 1, [.ints .u8 n B]⟩, some ⟨true, 1, [.ints .u8 K2 A]⟩, some ⟨true, 1, [.ints .i64 8 H]⟩, some ⟨true, 1, [.ints .i64 64 KK]⟩, some ⟨true, 1, [.ints .i64 8 V]⟩] =>
    bif chk (K2 = K ∧ 0 ≤ p ∧ (∀ x ∈ H, W32 x) ∧ ∀ x ∈ V, W32 x) then k (.exit 8) [.slice none 0 0, sl 1 K 1, sl 2 8 0, sl 3 64 0, w63 p.toNat, sl 4 8 q, w63 8] [rU n B, oU K A, oI 8 (opq (addL H V)), oI 64 KK, oI 8 V] else none
  | _, _ => none
noncomputable def LRFf : LF := fun vs h k => match vs, h with
  | [.slice none 0 0, .slice (some ⟨1, 0, none⟩) 8 0, .slice none 0 0, .int .i64 0], [some ⟨false, 1, [.ints .u8 n B]⟩, some ⟨true, 1, [.ints .i64 8 H]⟩] =>
    bif chk (∀ x ∈ H, W32 x) then k (.exit 10) [.slice none 0 0, sl 1 8 0, sl 2 32 1, w63 8] [rU n B, oI 8 H, oU 32 (opq (outB H))] else none
  | _, _ => none
theorem loopOKR1 : LoopOK Try.prog Try.f35.ntmps 1 bR1 liveR1 LR1f := by
  refine LoopOK.of_T ?_
  intro vs h k out hk
  unfold LR1f at hk
  split at hk
  · obtain ⟨hb, hk2⟩ := bif_t hk
    obtain ⟨rfl, h1, h2, h3⟩ := chk_iff.1 hb
    refine ⟨_, _, _, hk2, fun real => ?_⟩
    have hA := byt_of ((real.segs (i := 1) rfl) _ (List.mem_cons_self ..))
    obtain ⟨p, rfl⟩ := Int.eq_ofNat_of_zero_le h1
    rw [opq_eq]
    exact loopR1' _ _ _ _ p _ _ _ _ hA h2 h3
  · cases hk
theorem loopOKR2 : LoopOK Try.prog Try.f35.ntmps 1 bR2 liveR2 LR2f := by
  refine LoopOK.of_T ?_
  intro vs h k out hk
  unfold LR2f at hk
  split at hk
  · obtain ⟨hb, hk2⟩ := bif_t hk
    obtain ⟨rfl, h1, h2⟩ := chk_iff.1 hb
    refine ⟨_, _, _, hk2, fun real => ?_⟩
    have hl := ((real.segs (i := 4) rfl) _ (List.mem_cons_self ..)).1
    obtain ⟨p, rfl⟩ := Int.eq_ofNat_of_zero_le h1
    rw [opq_eq]
    rename_i ch ck n B K A H KK W
    have := loopR2 n K ch ck p B A H KK 48 W (by rw [hl]) (by rw [hl]; exact Nat.le_refl _) h2
    rw [hl] at this
    exact this
  · cases hk
theorem loopOKR3 : LoopOK Try.prog Try.f35.ntmps 1 bR3 liveR3 LR3f := by
  refine LoopOK.of_T ?_
  intro vs h k out hk
  unfold LR3f at hk
  split at hk
  · obtain ⟨hb, hk2⟩ := bif_t hk
    obtain ⟨rfl, h1, _, h2, h3, h4⟩ := chk_iff.1 hb
    refine ⟨_, _, _, hk2, fun real => ?_⟩
    have hl := ((real.segs (i := 5) rfl) _ (List.mem_cons_self ..)).1
    obtain ⟨p, rfl⟩ := Int.eq_ofNat_of_zero_le h1
    rw [opq_eq]
    have h5 := rndL_ok hl h4
    exact LoopT.step (roundR3 _ _ _ _ p _ 0 _ _ _ _ _ _ h2 h3 (by omega) hl h4) (loopR3 _ _ _ _ p _ _ _ _ _ h2 h3 63 1 _ rfl (h5 _ _).1 (h5 _ _).2)
  · cases hk
theorem loopOKR4 : LoopOK Try.prog Try.f35.ntmps 1 bR4 liveR4 LR4f := by
  refine LoopOK.of_rounds mk0 follows_ok (L := noL) noL_ok ?_
  intro vs h k out hk
  unfold LR4f at hk
  split at hk
  · obtain ⟨hb, hk2⟩ := bif_t hk
    obtain ⟨rfl, h1, h2, h3⟩ := chk_iff.1 hb
    refine ⟨_, _, _, hk2, fun real => ?_⟩
    have l1 := ((real.segs (i := 2) rfl) _ (List.mem_cons_self ..)).1
    have l2 := ((real.segs (i := 4) rfl) _ (List.mem_cons_self ..)).1
    obtain ⟨p, rfl⟩ := Int.eq_ofNat_of_zero_le h1
    obtain ⟨s, t, u, v, w, x, y, z, rfl⟩ := len8 l1
    obtain ⟨a, b, c, d, e, f, g, i, rfl⟩ := len8 l2
    simp only [List.mem_cons, List.not_mem_nil, or_false, forall_eq_or_imp, forall_eq, W32] at h2 h3
    obtain ⟨⟨s1, s2⟩, ⟨t1, t2⟩, ⟨u1, u2⟩, ⟨v1, v2⟩, ⟨w1, w2⟩, ⟨x1, x2⟩, ⟨y1, y2⟩, ⟨z1, z2⟩⟩ := h2
    obtain ⟨⟨a1, a2⟩, ⟨b1, b2⟩, ⟨c1, c2⟩, ⟨d1, d2⟩, ⟨e1, e2⟩, ⟨f1, f2⟩, ⟨g1, g2⟩, ⟨i1, i2⟩⟩ := h3
    refine ⟨9, ?_⟩
    refine (pR4 _ _ p _ _ _ _ a b c d e f g i s t u v w x y z (by omega) (by omega) (by omega) (by omega) (by omega) (by omega) (by omega) (by omega)).trans ?_
    rw [Int.tmod_eq_emod_of_nonneg (by omega), Int.tmod_eq_emod_of_nonneg (by omega), Int.tmod_eq_emod_of_nonneg (by omega), Int.tmod_eq_emod_of_nonneg (by omega), Int.tmod_eq_emod_of_nonneg (by omega), Int.tmod_eq_emod_of_nonneg (by omega), Int.tmod_eq_emod_of_nonneg (by omega), Int.tmod_eq_emod_of_nonneg (by omega),
      Int.add_comm s, Int.add_comm t, Int.add_comm u, Int.add_comm v, Int.add_comm w, Int.add_comm x, Int.add_comm y, Int.add_comm z, opq_eq]
    rfl
  · cases hk
theorem loopOKRF : LoopOK Try.prog Try.f35.ntmps 1 (loopOf Try.f35 1) liveRF LRFf := by
  refine LoopOK.of_rounds STwo_ok follows_ok (L := noL) noL_ok ?_
  intro vs h k out hk
  unfold LRFf at hk
  split at hk
  · obtain ⟨hb, hk2⟩ := bif_t hk
    have h2 := chk_iff.1 hb
    rename_i n B H
    refine ⟨_, _, _, hk2, fun real => ?_⟩
    have l1 := ((real.segs (i := 1) rfl) _ (List.mem_cons_self ..)).1
    obtain ⟨s, t, u, v, w, x, y, z, rfl⟩ := len8 l1
    simp only [List.mem_cons, List.not_mem_nil, or_false, forall_eq_or_imp, forall_eq, W32] at h2
    obtain ⟨⟨s1, s2⟩, ⟨t1, t2⟩, ⟨u1, u2⟩, ⟨v1, v2⟩, ⟨w1, w2⟩, ⟨x1, x2⟩, ⟨y1, y2⟩, ⟨z1, z2⟩⟩ := h2
    refine ⟨9, ?_⟩
    have p := @pRF n B s t u v w x y z
    have em : ∀ x : Int, x % 256 % 256 = x % 256 := fun x => Int.emod_emod_of_dvd _ (Int.dvd_refl _)
    simp (disch := omega) only [autoParam, Int.tdiv_eq_ediv_of_nonneg, Int.tmod_eq_emod_of_nonneg, wrap_u8, em] at p
    rw [opq_eq]
    refine (p ?_ ?_ ?_ ?_ ?_ ?_ ?_ ?_ ?_ ?_ ?_ ?_ ?_ ?_ ?_ ?_ ?_ ?_ ?_ ?_ ?_ ?_ ?_ ?_ ?_ ?_ ?_).trans rfl
    all_goals first | trivial | omega
  · cases hk
noncomputable def LRI : LSpec := manyL [(8, liveR1, LR1f), (13, liveR2, LR2f), (18, liveR3, LR3f), (24, liveR4, LR4f)]
theorem loopsRI : LoopsOK Try.prog LRI Try.f35.ntmps 1 (loopOf Try.f35 0) :=
  LsOK.all (bs := [bR1, bR2, bR3, bR4]) (by kernel_rfl) (LsOK.cons (by kernel_rfl) loopOKR1 (LsOK.cons (by kernel_rfl) loopOKR2 (LsOK.cons (by kernel_rfl) loopOKR3 (LsOK.cons (by kernel_rfl) loopOKR4 LsOK.nil))))
--CP pRO (n K p : Nat) (B A H KK : List Int) (on : List Value → Heap → Out) (out : Exit → List Value → Heap → Out) :: roundK Try.prog ((mkS []).on [(25, true)]) LRI Try.f35.ntmps 1 (loopOf Try.f35 0) liveRO [.slice none 0 0, sl 1 K 1, sl 2 8 0, sl 3 64 0, w63 p] [rU n B, oU K A, oI 8 H, oI 64 KK] on out
theorem pRO (n K p : Nat) (B A H KK : List Int) (on : List Value → Heap → Out) (out : Exit → List Value → Heap → Out)
    (w1 : -9223372036854775808 ≤ (↑p : Int) + (64 : Int) ∧ (↑p : Int) + (64 : Int) ≤ 9223372036854775807 := by omega)
    (h1 : (↑p : Int) < (↑K : Int) := by first | omega | assumption | rfl)
    (h2 : K = K ∧ (0 : Int) ≤ (↑p : Int) ∧ p + (64 : Nat) ≤ K ∧ K ≤ (100000 : Nat) := by first | omega | assumption | rfl | ((repeat' with_reducible apply And.intro) <;> first | rfl | assumption | omega))
    (h3 : K = K ∧ (0 : Int) ≤ (↑p : Int) ∧ ∀ (x : Int), x ∈ opq (wds A (↑p : Int).toNat (16 : Nat)) → W32 x := by first | omega | assumption | rfl | ((repeat' with_reducible apply And.intro) <;> first | rfl | assumption | omega))
    (h4 : K = K ∧ (0 : Int) ≤ (↑p : Int) ∧ (1 : Nat) ≤ (2 : Nat) ∧ (∀ (x : Int), x ∈ KK → W32 x) ∧ (∀ (x : Int), x ∈ opq (wgr (48 : Nat) (opq (wds A (↑p : Int).toNat (16 : Nat)))) → W32 x) ∧ ∀ (x : Int), x ∈ List.take (8 : Nat) H → W32 x := by first | omega | assumption | rfl | ((repeat' with_reducible apply And.intro) <;> first | rfl | assumption | omega))
    (h5 : K = K ∧ (0 : Int) ≤ (↑p : Int) ∧ (∀ (x : Int), x ∈ H → W32 x) ∧ ∀ (x : Int), x ∈ opq (rnds (opq (wgr (48 : Nat) (opq (wds A (↑p : Int).toNat (16 : Nat))))) KK (64 : Nat) (0 : Nat) (List.take (8 : Nat) H)) → W32 x := by first | omega | assumption | rfl | ((repeat' with_reducible apply And.intro) <;> first | rfl | assumption | omega)) : roundK Try.prog ((mkS []).on [(25, true)]) LRI Try.f35.ntmps 1 (loopOf Try.f35 0) liveRO [.slice none 0 0, sl 1 K 1, sl 2 8 0, sl 3 64 0, w63 p] [rU n B, oU K A, oI 8 H, oI 64 KK] on out =
     (on [Value.slice none (0 : Nat) (0 : Nat), Value.slice (some (Addr.mk (1 : Nat) (0 : Nat) none)) K (1 : Nat), Value.slice (some (Addr.mk (2 : Nat) (0 : Nat) none)) (8 : Nat) (0 : Nat), Value.slice
     (some (Addr.mk (3 : Nat) (0 : Nat) none)) (64 : Nat) (0 : Nat), Value.int IntKind.i64 ((↑p : Int) + (64 : Int))] [some (Blk.mk false (1 : Nat) [Seg.ints IntKind.u8 n B]), some (Blk.mk true (1 : Nat)
     [Seg.ints IntKind.u8 K A]), some (Blk.mk true (1 : Nat) [Seg.ints IntKind.i64 (8 : Nat) (opq (addL H (opq (rnds (opq (wgr (48 : Nat) (opq (wds A p (16 : Nat))))) KK (64 : Nat) (0 : Nat) (List.take (8
     : Nat) H)))))]), some (Blk.mk true (1 : Nat) [Seg.ints IntKind.i64 (64 : Nat) KK])]) :=
  Eq.trans (b :=
     bif decide ((↑p : Int) < (↑K : Int)) then bif chk (K = K ∧ (0 : Int) ≤ (↑p : Int) ∧ (↑p : Int).toNat + (64 : Nat) ≤ K ∧ K ≤ (100000 : Nat)) then bif chk (K = K ∧ (0 : Int) ≤ (↑(↑p : Int).toNat : Int)
     ∧ ∀ (x : Int), x ∈ opq (wds A (↑p : Int).toNat (16 : Nat)) → W32 x) then bif chk (K = K ∧ (0 : Int) ≤ (↑(↑(↑p : Int).toNat : Int).toNat : Int) ∧ (1 : Nat) ≤ (2 : Nat) ∧ (∀ (x : Int), x ∈ KK → W32 x) ∧
     (∀ (x : Int), x ∈ opq (wgr (48 : Nat) (opq (wds A (↑p : Int).toNat (16 : Nat)))) → W32 x) ∧ ∀ (x : Int), x ∈ List.take (8 : Nat) H → W32 x)
     then bif chk (K = K ∧ (0 : Int) ≤ (↑(↑(↑(↑p : Int).toNat : Int).toNat : Int).toNat : Int) ∧ (∀ (x : Int), x ∈ H → W32 x) ∧ ∀ (x : Int), x ∈ opq (rnds (opq (wgr (48 : Nat) (opq (wds A (↑p : Int).toNat
     (16 : Nat))))) KK (64 : Nat) (0 : Nat) (List.take (8 : Nat) H)) → W32 x) then on [Value.slice none (0 : Nat) (0 : Nat), Value.slice (some
     (Addr.mk (1 : Nat) (0 : Nat) none)) K (1 : Nat), Value.slice (some (Addr.mk (2 : Nat) (0 : Nat) none)) (8 : Nat) (0 : Nat), Value.slice (some (Addr.mk (3 : Nat) (0 : Nat) none)) (64 : Nat) (0 : Nat),
     Value.int IntKind.i64 (IntKind.i64.wrap ((↑(↑(↑(↑(↑p : Int).toNat : Int).toNat : Int).toNat : Int).toNat : Int) + (64 : Int)))] [some (Blk.mk false (1 : Nat) [Seg.ints IntKind.u8 n B]), some (Blk.mk
     true (1 : Nat) [Seg.ints IntKind.u8 K A]), some (Blk.mk true (1 : Nat) [Seg.ints IntKind.i64 (8 : Nat) (opq (addL H (opq (rnds (opq (wgr (48 : Nat) (opq (wds A (↑p : Int).toNat (16 : Nat))))) KK (64 :
     Nat) (0 : Nat) (List.take (8 : Nat) H)))))]), some (Blk.mk true (1 : Nat) [Seg.ints IntKind.i64 (64 : Nat) KK])] else none else none else none else none else none) (by kernel_rfl) (by simp only [-eq_self, Int.toNat_natCast, swrap w1.1 w1.2]; exact (go_t (dec_t h1) (go_t (chk_t h2) (go_t (chk_t h3) (go_t (chk_t h4) (go_t (chk_t h5) rfl))))))
--CFEND
--CP pROx (n K p : Nat) (B A H KK : List Int) (on : List Value → Heap → Out) (out : Exit → List Value → Heap → Out) :: roundK Try.prog ((mkS []).on [(25, false)]) LRI Try.f35.ntmps 1 (loopOf Try.f35 0) liveRO [.slice none 0 0, sl 1 K 1, sl 2 8 0, sl 3 64 0, w63 p] [rU n B, oU K A, oI 8 H, oI 64 KK] on out
theorem pROx (n K p : Nat) (B A H KK : List Int) (on : List Value → Heap → Out) (out : Exit → List Value → Heap → Out)
    (h1 : ¬(↑p : Int) < (↑K : Int) := by first | omega | assumption | rfl) : roundK Try.prog ((mkS []).on [(25, false)]) LRI Try.f35.ntmps 1 (loopOf Try.f35 0) liveRO [.slice none 0 0, sl 1 K 1, sl 2 8 0, sl 3 64 0, w63 p] [rU n B, oU K A, oI 8 H, oI 64 KK] on out =
     (out (Exit.exit (0 : Nat)) [Value.slice none (0 : Nat) (0 : Nat), Value.slice (some (Addr.mk (1 : Nat) (0 : Nat) none)) K (1 : Nat), Value.slice (some (Addr.mk (2 : Nat) (0 : Nat) none)) (8 : Nat) (0
     : Nat), Value.slice (some (Addr.mk (3 : Nat) (0 : Nat) none)) (64 : Nat) (0 : Nat), Value.int IntKind.i64 (↑p : Int)] [some (Blk.mk false (1 : Nat) [Seg.ints IntKind.u8 n B]), some (Blk.mk true (1 :
     Nat) [Seg.ints IntKind.u8 K A]), some (Blk.mk true (1 : Nat) [Seg.ints IntKind.i64 (8 : Nat) H]), some (Blk.mk true (1 : Nat) [Seg.ints IntKind.i64 (64 : Nat) KK])]) :=
  Eq.trans (by kernel_rfl) (go_f (dec_f h1) rfl)
--CFEND
end Go.Proofs.Ytcjjngdkkihgjaa.VC
