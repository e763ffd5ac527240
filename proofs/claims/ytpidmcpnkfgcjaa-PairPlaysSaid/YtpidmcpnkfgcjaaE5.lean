/- EdgePlays: the document's log: closed forms. -/
import Derived.Test.YtpidmcpnkfgcjaaE3
import Derived.Test.YtpidmcpnkfgcjaaPX
namespace Go.Proofs.Ytpidmcpnkfgcjaa.VC
open Go Go.Proofs

abbrev wL (v : Value) : Option Blk := some ⟨true, 1, [.vals [v]]⟩
--CP p14r1 (c : Int) (o n N cp : Nat) (l : List Int) :: fnK Try.prog ((mkS []).on [(7, true)]) noL Try.f14 [pt 0, w63 c] [wL (.slice (some ⟨1, o, none⟩) n cp), oI N l]
theorem p14r1 (c : Int) (o n N cp : Nat) (l : List Int)
    (h1 : c < (0 : Int) := by first | omega | assumption | rfl) : fnK Try.prog ((mkS []).on [(7, true)]) noL Try.f14 [pt 0, w63 c] [wL (.slice (some ⟨1, o, none⟩) n cp), oI N l] =
     (some (Res.ret (Value.int IntKind.i64 (2 : Int)) [some (Blk.mk true (1 : Nat) [Seg.vals [Value.slice (some (Addr.mk (1 : Nat) o none)) n cp]]), some (Blk.mk true (1 : Nat) [Seg.ints IntKind.i64 N
     l])])) :=
  Eq.trans (by kernel_rfl) (go_t (dec_t h1) rfl)
--CFEND
--CP p14r2 (c : Int) (o n N cp : Nat) (l : List Int) :: fnK Try.prog ((mkS []).on [(7, false), (14, true), (30, true)]) noL Try.f14 [pt 0, w63 c] [wL (.slice (some ⟨1, o, none⟩) n cp), oI N l]
theorem p14r2 (c : Int) (o n N cp : Nat) (l : List Int)
    (w1 : -9223372036854775808 ≤ (↑n : Int) - (1 : Int) ∧ (↑n : Int) - (1 : Int) ≤ 9223372036854775807 := by omega)
    (h1 : ¬c < (0 : Int) := by first | omega | assumption | rfl)
    (h2 : (↑n : Int) > (0 : Int) := by first | omega | assumption | rfl)
    (h3 : (0 : Int) ≤ (↑n : Int) - (1 : Int) := by first | omega | assumption | rfl)
    (h4 : (↑n : Int) - (1 : Int) < (↑n : Int) := by first | omega | assumption | rfl)
    (h5 : o + ((↑n : Int) - (1 : Int)).toNat < N := by first | omega | assumption | rfl)
    (h6 : c < l.getD (o + ((↑n : Int) - (1 : Int)).toNat) (0 : Int) := by first | omega | assumption | rfl) : fnK Try.prog ((mkS []).on [(7, false), (14, true), (30, true)]) noL Try.f14 [pt 0, w63 c] [wL (.slice (some ⟨1, o, none⟩) n cp), oI N l] =
     (some (Res.ret (Value.int IntKind.i64 (2 : Int)) [some (Blk.mk true (1 : Nat) [Seg.vals [Value.slice (some (Addr.mk (1 : Nat) o none)) n cp]]), some (Blk.mk true (1 : Nat) [Seg.ints IntKind.i64 N
     l])])) :=
  Eq.trans (b :=
     bif decide (c < (0 : Int)) then none else bif decide ((↑n : Int) > (0 : Int)) then bif decide ((0 : Int) ≤ IntKind.i64.wrap ((↑n : Int) - (1 : Int))) && decide (IntKind.i64.wrap ((↑n : Int) - (1 :
     Int)) < (↑n : Int)) then bif (o + (IntKind.i64.wrap ((↑n : Int) - (1 : Int))).toNat * (1 : Nat)).blt N then bif decide (c < l.getD (o + (IntKind.i64.wrap ((↑n : Int) - (1 : Int))).toNat * (1 : Nat))
     (0 : Int)) then some (Res.ret (Value.int IntKind.i64 (2 : Int)) [some (Blk.mk true (1 : Nat) [Seg.vals [Value.slice (some (Addr.mk (1 : Nat) o none)) n cp]]), some (Blk.mk true (1 : Nat) [Seg.ints
     IntKind.i64 N l])]) else none else none else none else none) (by kernel_rfl) (by simp only [-eq_self, Nat.mul_one, swrap w1.1 w1.2]; exact (go_f (dec_f h1) (go_t (dec_t h2) (go_t (and_t (dec_t h3) (dec_t h4)) (go_t (blt_t h5) (go_t (dec_t h6) rfl))))))
--CFEND
--CP p14a0 (c : Int) (o n N cp : Nat) (l : List Int) :: fnK Try.prog ((mkS []).on [(7, false), (14, false), (48, false)]) noL Try.f14 [pt 0, w63 c] [wL (.slice (some ⟨1, o, none⟩) n cp), oI N l]
theorem p14a0 (c : Int) (o n N cp : Nat) (l : List Int)
    (h1 : ¬c < (0 : Int) := by first | omega | assumption | rfl)
    (h2 : ¬(↑n : Int) > (0 : Int) := by first | omega | assumption | rfl)
    (h3 : o ≤ N := by first | omega | assumption | rfl)
    (h4 : n ≤ N - o := by first | omega | assumption | rfl)
    (h5 : n * (8 : Nat) ≤ (140737488355328 : Nat) := by first | omega | assumption | rfl)
    (h6 : n ≤ (4611686018427387904 : Nat) := by first | omega | assumption | rfl)
    (h7 : n ≤ n := by first | omega | assumption | rfl)
    (h8 : (n + (1 : Nat)) * (8 : Nat) ≤ (140737488355328 : Nat) := by first | omega | assumption | rfl)
    (h9 : n + (1 : Nat) ≤ (4611686018427387904 : Nat) := by first | omega | assumption | rfl)
    (h10 : n = n := by first | omega | assumption | rfl)
    (h11 : ¬(↑(n + (1 : Nat)) : Int) > (8 : Int) := by first | omega | assumption | rfl) : fnK Try.prog ((mkS []).on [(7, false), (14, false), (48, false)]) noL Try.f14 [pt 0, w63 c] [wL (.slice (some ⟨1, o, none⟩) n cp), oI N l] =
     (some (Res.ret (Value.int IntKind.i64 (0 : Int)) [some (Blk.mk true (1 : Nat) [Seg.vals [Value.slice (some (Addr.mk (2 : Nat) (0 : Nat) none)) (n + (1 : Nat)) (1 : Nat)]]), some (Blk.mk true (1 : Nat)
     [Seg.ints IntKind.i64 N l]), some (Blk.mk true (1 : Nat) [Seg.ints IntKind.i64 (n + (1 : Nat)) (List.take n (List.take n (List.drop o l)) ++ [c])])])) :=
  Eq.trans (b :=
     bif decide (c < (0 : Int)) then none else bif decide ((↑n : Int) > (0 : Int)) then none else bif o.ble N then bif (n * (1 : Nat)).ble (N - o) then bif decide (((0 : Nat) + n) * (8 : Nat) ≤
     (140737488355328 : Nat)) && ((0 : Nat) + n).ble (OfNat.ofNat (4611686018427387904 : Nat)) then bif (((0 : Nat) + n) * (1 : Nat)).ble (n * (1 : Nat)) then bif decide (((0 : Nat) + n + (1 : Nat)) * (8 :
     Nat) ≤ (140737488355328 : Nat)) && ((0 : Nat) + n + (1 : Nat)).ble (OfNat.ofNat (4611686018427387904 : Nat)) then bif ((0 : Nat) + ((0 : Nat) + n) * (1 : Nat)).beq (segsLen [Seg.ints IntKind.i64 (n *
     (1 : Nat)) (List.take (n * (1 : Nat)) (List.drop o l))]) && true then bif decide ((↑((0 : Nat) + n + (1 : Nat)) : Int) > (8 : Int)) then none else some (Res.ret (Value.int IntKind.i64 (0 : Int)) [some
     (Blk.mk true (1 : Nat) [Seg.vals [Value.slice (some (Addr.mk (2 : Nat) (0 : Nat) none)) ((0 : Nat) + n + (1 : Nat)) (1 : Nat)]]), some (Blk.mk true (1 : Nat) [Seg.ints IntKind.i64 N l]), some (Blk.mk
     true (1 : Nat) [Seg.ints IntKind.i64 (((0 : Nat) + n) * (1 : Nat) + (1 : Nat)) (List.take (((0 : Nat) + n) * (1 : Nat)) (List.take (n * (1 : Nat)) (List.drop o l)) ++ [c])])]) else none else none else
     none else none else none else none) (by kernel_rfl) (by simp only [-eq_self, Nat.mul_one, Nat.zero_add, segsLen_one]; exact (go_f (dec_f h1) (go_f (dec_f h2) (go_t (ble_t h3) (go_t (ble_t h4) (go_t (and_t (dec_t h5) (ble_t h6)) (go_t (ble_t h7) (go_t (and_t (dec_t h8) (ble_t h9)) (go_t (and_t (beq_t h10) rfl) (go_f (dec_f h11) rfl))))))))))
--CFEND
--CP p14a1 (c : Int) (o n N cp : Nat) (l : List Int) :: fnK Try.prog ((mkS []).on [(7, false), (14, true), (30, false), (48, false)]) noL Try.f14 [pt 0, w63 c] [wL (.slice (some ⟨1, o, none⟩) n cp), oI N l]
theorem p14a1 (c : Int) (o n N cp : Nat) (l : List Int)
    (w1 : -9223372036854775808 ≤ (↑n : Int) - (1 : Int) ∧ (↑n : Int) - (1 : Int) ≤ 9223372036854775807 := by omega)
    (h1 : ¬c < (0 : Int) := by first | omega | assumption | rfl)
    (h2 : (↑n : Int) > (0 : Int) := by first | omega | assumption | rfl)
    (h3 : (0 : Int) ≤ (↑n : Int) - (1 : Int) := by first | omega | assumption | rfl)
    (h4 : (↑n : Int) - (1 : Int) < (↑n : Int) := by first | omega | assumption | rfl)
    (h5 : o + ((↑n : Int) - (1 : Int)).toNat < N := by first | omega | assumption | rfl)
    (h6 : ¬c < l.getD (o + ((↑n : Int) - (1 : Int)).toNat) (0 : Int) := by first | omega | assumption | rfl)
    (h7 : o ≤ N := by first | omega | assumption | rfl)
    (h8 : n ≤ N - o := by first | omega | assumption | rfl)
    (h9 : n * (8 : Nat) ≤ (140737488355328 : Nat) := by first | omega | assumption | rfl)
    (h10 : n ≤ (4611686018427387904 : Nat) := by first | omega | assumption | rfl)
    (h11 : n ≤ n := by first | omega | assumption | rfl)
    (h12 : (n + (1 : Nat)) * (8 : Nat) ≤ (140737488355328 : Nat) := by first | omega | assumption | rfl)
    (h13 : n + (1 : Nat) ≤ (4611686018427387904 : Nat) := by first | omega | assumption | rfl)
    (h14 : n = n := by first | omega | assumption | rfl)
    (h15 : ¬(↑(n + (1 : Nat)) : Int) > (8 : Int) := by first | omega | assumption | rfl) : fnK Try.prog ((mkS []).on [(7, false), (14, true), (30, false), (48, false)]) noL Try.f14 [pt 0, w63 c] [wL (.slice (some ⟨1, o, none⟩) n cp), oI N l] =
     (some (Res.ret (Value.int IntKind.i64 (0 : Int)) [some (Blk.mk true (1 : Nat) [Seg.vals [Value.slice (some (Addr.mk (2 : Nat) (0 : Nat) none)) (n + (1 : Nat)) (1 : Nat)]]), some (Blk.mk true (1 : Nat)
     [Seg.ints IntKind.i64 N l]), some (Blk.mk true (1 : Nat) [Seg.ints IntKind.i64 (n + (1 : Nat)) (List.take n (List.take n (List.drop o l)) ++ [c])])])) :=
  Eq.trans (b :=
     bif decide (c < (0 : Int)) then none else bif decide ((↑n : Int) > (0 : Int)) then bif decide ((0 : Int) ≤ IntKind.i64.wrap ((↑n : Int) - (1 : Int))) && decide (IntKind.i64.wrap ((↑n : Int) - (1 :
     Int)) < (↑n : Int)) then bif (o + (IntKind.i64.wrap ((↑n : Int) - (1 : Int))).toNat * (1 : Nat)).blt N then bif decide (c < l.getD (o + (IntKind.i64.wrap ((↑n : Int) - (1 : Int))).toNat * (1 : Nat))
     (0 : Int)) then none else bif o.ble N then bif (n * (1 : Nat)).ble (N - o) then bif decide (((0 : Nat) + n) * (8 : Nat) ≤ (140737488355328 : Nat)) && ((0 : Nat) + n).ble (OfNat.ofNat
     (4611686018427387904 : Nat)) then bif (((0 : Nat) + n) * (1 : Nat)).ble (n * (1 : Nat)) then bif decide (((0 : Nat) + n + (1 : Nat)) * (8 : Nat) ≤ (140737488355328 : Nat)) && ((0 : Nat) + n + (1 :
     Nat)).ble (OfNat.ofNat (4611686018427387904 : Nat)) then bif ((0 : Nat) + ((0 : Nat) + n) * (1 : Nat)).beq (segsLen [Seg.ints IntKind.i64 (n * (1 : Nat)) (List.take (n * (1 : Nat)) (List.drop o l))])
     && true then bif decide ((↑((0 : Nat) + n + (1 : Nat)) : Int) > (8 : Int)) then none else some (Res.ret (Value.int IntKind.i64 (0 : Int)) [some (Blk.mk true (1 : Nat) [Seg.vals [Value.slice (some
     (Addr.mk (2 : Nat) (0 : Nat) none)) ((0 : Nat) + n + (1 : Nat)) (1 : Nat)]]), some (Blk.mk true (1 : Nat) [Seg.ints IntKind.i64 N l]), some (Blk.mk true (1 : Nat) [Seg.ints IntKind.i64 (((0 : Nat) +
     n) * (1 : Nat) + (1 : Nat)) (List.take (((0 : Nat) + n) * (1 : Nat)) (List.take (n * (1 : Nat)) (List.drop o l)) ++ [c])])]) else none else none else none else none else none else none else none else
     none else none) (by kernel_rfl) (by simp only [-eq_self, Nat.mul_one, Nat.zero_add, segsLen_one, swrap w1.1 w1.2]; exact (go_f (dec_f h1) (go_t (dec_t h2) (go_t (and_t (dec_t h3) (dec_t h4)) (go_t (blt_t h5) (go_f (dec_f h6) (go_t (ble_t h7) (go_t (ble_t h8) (go_t (and_t (dec_t h9) (ble_t h10)) (go_t (ble_t h11) (go_t (and_t (dec_t h12) (ble_t h13)) (go_t (and_t (beq_t h14) rfl) (go_f (dec_f h15) rfl)))))))))))))
--CFEND
--CP p14a2 (c : Int) (o n N cp : Nat) (l : List Int) :: fnK Try.prog ((mkS []).on [(7, false), (14, true), (30, false), (48, true)]) noL Try.f14 [pt 0, w63 c] [wL (.slice (some ⟨1, o, none⟩) n cp), oI N l]
theorem p14a2 (c : Int) (o n N cp : Nat) (l : List Int)
    (w1 : -9223372036854775808 ≤ (↑n : Int) - (1 : Int) ∧ (↑n : Int) - (1 : Int) ≤ 9223372036854775807 := by omega)
    (h1 : ¬c < (0 : Int) := by first | omega | assumption | rfl)
    (h2 : (↑n : Int) > (0 : Int) := by first | omega | assumption | rfl)
    (h3 : (0 : Int) ≤ (↑n : Int) - (1 : Int) := by first | omega | assumption | rfl)
    (h4 : (↑n : Int) - (1 : Int) < (↑n : Int) := by first | omega | assumption | rfl)
    (h5 : o + ((↑n : Int) - (1 : Int)).toNat < N := by first | omega | assumption | rfl)
    (h6 : ¬c < l.getD (o + ((↑n : Int) - (1 : Int)).toNat) (0 : Int) := by first | omega | assumption | rfl)
    (h7 : o ≤ N := by first | omega | assumption | rfl)
    (h8 : n ≤ N - o := by first | omega | assumption | rfl)
    (h9 : n * (8 : Nat) ≤ (140737488355328 : Nat) := by first | omega | assumption | rfl)
    (h10 : n ≤ (4611686018427387904 : Nat) := by first | omega | assumption | rfl)
    (h11 : n ≤ n := by first | omega | assumption | rfl)
    (h12 : (n + (1 : Nat)) * (8 : Nat) ≤ (140737488355328 : Nat) := by first | omega | assumption | rfl)
    (h13 : n + (1 : Nat) ≤ (4611686018427387904 : Nat) := by first | omega | assumption | rfl)
    (h14 : n = n := by first | omega | assumption | rfl)
    (h15 : (↑(n + (1 : Nat)) : Int) > (8 : Int) := by first | omega | assumption | rfl)
    (h16 : (1 : Int) ≤ (↑(n + (1 : Nat)) : Int) := by first | omega | assumption | rfl)
    (h17 : (↑(n + (1 : Nat)) : Int) ≤ (↑(n + (1 : Nat)) : Int) := by first | omega | assumption | rfl) : fnK Try.prog ((mkS []).on [(7, false), (14, true), (30, false), (48, true)]) noL Try.f14 [pt 0, w63 c] [wL (.slice (some ⟨1, o, none⟩) n cp), oI N l] =
     (some (Res.ret (Value.int IntKind.i64 (0 : Int)) [some (Blk.mk true (1 : Nat) [Seg.vals [Value.slice (some (Addr.mk (2 : Nat) (1 : Nat) none)) ((↑(n + (1 : Nat)) : Int) - (1 : Int)).toNat (1 :
     Nat)]]), some (Blk.mk true (1 : Nat) [Seg.ints IntKind.i64 N l]), some (Blk.mk true (1 : Nat) [Seg.ints IntKind.i64 (n + (1 : Nat)) (List.take n (List.take n (List.drop o l)) ++ [c])])])) :=
  Eq.trans (b :=
     bif decide (c < (0 : Int)) then none else bif decide ((↑n : Int) > (0 : Int)) then bif decide ((0 : Int) ≤ IntKind.i64.wrap ((↑n : Int) - (1 : Int))) && decide (IntKind.i64.wrap ((↑n : Int) - (1 :
     Int)) < (↑n : Int)) then bif (o + (IntKind.i64.wrap ((↑n : Int) - (1 : Int))).toNat * (1 : Nat)).blt N then bif decide (c < l.getD (o + (IntKind.i64.wrap ((↑n : Int) - (1 : Int))).toNat * (1 : Nat))
     (0 : Int)) then none else bif o.ble N then bif (n * (1 : Nat)).ble (N - o) then bif decide (((0 : Nat) + n) * (8 : Nat) ≤ (140737488355328 : Nat)) && ((0 : Nat) + n).ble (OfNat.ofNat
     (4611686018427387904 : Nat)) then bif (((0 : Nat) + n) * (1 : Nat)).ble (n * (1 : Nat)) then bif decide (((0 : Nat) + n + (1 : Nat)) * (8 : Nat) ≤ (140737488355328 : Nat)) && ((0 : Nat) + n + (1 :
     Nat)).ble (OfNat.ofNat (4611686018427387904 : Nat)) then bif ((0 : Nat) + ((0 : Nat) + n) * (1 : Nat)).beq (segsLen [Seg.ints IntKind.i64 (n * (1 : Nat)) (List.take (n * (1 : Nat)) (List.drop o l))])
     && true then bif decide ((↑((0 : Nat) + n + (1 : Nat)) : Int) > (8 : Int)) then bif decide ((1 : Int) ≤ (↑((0 : Nat) + n + (1 : Nat)) : Int)) && decide ((↑((0 : Nat) + n + (1 : Nat)) : Int) ≤ (↑((0 :
     Nat) + n + (1 : Nat)) : Int)) then some (Res.ret (Value.int IntKind.i64 (0 : Int)) [some (Blk.mk true (1 : Nat) [Seg.vals [Value.slice (some (Addr.mk (2 : Nat) (1 : Nat) none)) ((↑((0 : Nat) + n + (1
     : Nat)) : Int) - (1 : Int)).toNat (1 : Nat)]]), some (Blk.mk true (1 : Nat) [Seg.ints IntKind.i64 N l]), some (Blk.mk true (1 : Nat) [Seg.ints IntKind.i64 (((0 : Nat) + n) * (1 : Nat) + (1 : Nat))
     (List.take (((0 : Nat) + n) * (1 : Nat)) (List.take (n * (1 : Nat)) (List.drop o l)) ++ [c])])]) else none else none else none else none else none else none else none else none else none else none
     else none) (by kernel_rfl) (by simp only [-eq_self, Nat.mul_one, Nat.zero_add, segsLen_one, swrap w1.1 w1.2]; exact (go_f (dec_f h1) (go_t (dec_t h2) (go_t (and_t (dec_t h3) (dec_t h4)) (go_t (blt_t h5) (go_f (dec_f h6) (go_t (ble_t h7) (go_t (ble_t h8) (go_t (and_t (dec_t h9) (ble_t h10)) (go_t (ble_t h11) (go_t (and_t (dec_t h12) (ble_t h13)) (go_t (and_t (beq_t h14) rfl) (go_t (dec_t h15) (go_t (and_t (dec_t h16) (dec_t h17)) rfl))))))))))))))
--CFEND
def live19 : List Nat := [6, 0, 1, 2, 7, 8]
--CF cf19r (a b : Int) (s i o n N cp : Nat) (l : List Int) (on : List Value → Heap → Out) (out : Exit → List Value → Heap → Out) :: roundK Try.prog (mkS []) noL Try.f19.ntmps 2 (loopOf Try.f19 0) live19 [w63 0, pt 0, w63 a, w63 b, w63 s, w63 i] [some ⟨false, 1, [.vals [.slice (some ⟨1, o, none⟩) n cp]]⟩, rI N l] on out
theorem cf19r (a b : Int) (s i o n N cp : Nat) (l : List Int) (on : List Value → Heap → Out) (out : Exit → List Value → Heap → Out) : roundK Try.prog (mkS []) noL Try.f19.ntmps 2 (loopOf Try.f19 0) live19 [w63 0, pt 0, w63 a, w63 b, w63 s, w63 i] [some ⟨false, 1, [.vals [.slice (some ⟨1, o, none⟩) n cp]]⟩, rI N l] on out =
     (bif decide ((↑i : Int) < (↑n : Int)) then bif decide (0 ≤ (↑i : Int)) && decide ((↑i : Int) < (↑n : Int)) then bif (o + (↑i : Int).toNat * 1).blt N then bif decide (l.getD (o + (↑i : Int).toNat * 1)
     0 ≥ a) then bif decide (0 ≤ (↑i : Int)) && decide ((↑i : Int) < (↑n : Int)) then bif (o + (↑i : Int).toNat * 1).blt N then bif decide (l.getD (o + (↑i : Int).toNat * 1) 0 ≤ b) then on [Value.int
     IntKind.i64 0, Value.pointer (some (Addr.mk 0 0 none)), Value.int IntKind.i64 a, Value.int IntKind.i64 b, Value.int IntKind.i64 (IntKind.i64.wrap ((↑s : Int) + 1)), Value.int IntKind.i64
     (IntKind.i64.wrap ((↑i : Int) + 1))] [some (Blk.mk false 1 [Seg.vals [Value.slice (some (Addr.mk 1 o none)) n cp]]), some (Blk.mk false 1 [Seg.ints IntKind.i64 N l])] else on [Value.int IntKind.i64 0,
     Value.pointer (some (Addr.mk 0 0 none)), Value.int IntKind.i64 a, Value.int IntKind.i64 b, Value.int IntKind.i64 (↑s : Int), Value.int IntKind.i64 (IntKind.i64.wrap ((↑i : Int) + 1))] [some (Blk.mk
     false 1 [Seg.vals [Value.slice (some (Addr.mk 1 o none)) n cp]]), some (Blk.mk false 1 [Seg.ints IntKind.i64 N l])] else none else none else on [Value.int IntKind.i64 0, Value.pointer (some (Addr.mk 0
     0 none)), Value.int IntKind.i64 a, Value.int IntKind.i64 b, Value.int IntKind.i64 (↑s : Int), Value.int IntKind.i64 (IntKind.i64.wrap ((↑i : Int) + 1))] [some (Blk.mk false 1 [Seg.vals [Value.slice
     (some (Addr.mk 1 o none)) n cp]]), some (Blk.mk false 1 [Seg.ints IntKind.i64 N l])] else none else none else out (Exit.exit 0) [Value.int IntKind.i64 0, Value.pointer (some (Addr.mk 0 0 none)),
     Value.int IntKind.i64 a, Value.int IntKind.i64 b, Value.int IntKind.i64 (↑s : Int), Value.int IntKind.i64 (↑i : Int)] [some (Blk.mk false 1 [Seg.vals [Value.slice (some (Addr.mk 1 o none)) n cp]]),
     some (Blk.mk false 1 [Seg.ints IntKind.i64 N l])]) := by kernel_rfl
--CFEND
/-- What a slice of a row holds. -/
def curL (o n : Nat) (l : List Int) : List Int := (l.drop o).take n
/-- Where the log's slice begins behind another edge, and how long it is. -/
def offN (n : Nat) : Nat := bif Nat.ble 8 n then 1 else 0
def lenN (n : Nat) : Nat := bif Nat.ble 8 n then n else n + 1
theorem offN_s {n : Nat} (h : ¬ 8 ≤ n) : offN n = 0 ∧ lenN n = n + 1 := by
  unfold offN lenN; rw [ble_f (by omega)]; exact ⟨rfl, rfl⟩
theorem offN_l {n : Nat} (h : 8 ≤ n) : offN n = 1 ∧ lenN n = n := by
  unfold offN lenN; rw [ble_t h]; exact ⟨rfl, rfl⟩
/-- An edge is laid. -/
noncomputable def F14a : FSpec := fun args h k => match args, h with
  | [.pointer (some ⟨0, 0, none⟩), .int .i64 c], [some ⟨true, 1, [.vals [.slice (some ⟨1, o, none⟩) n _]]⟩, some ⟨true, 1, [.ints .i64 N l]⟩] =>
    bif chk (o + n ≤ N ∧ n ≤ 100 ∧ 0 ≤ c ∧ (0 < n → l.getD (o + (n - 1)) 0 ≤ c)) then
      k (w63 0) [wL (.slice (some ⟨2, offN n, none⟩) (lenN n) 1), oI N l, oI (n + 1) (curL o n l ++ [c])] else none
  | _, _ => none
/-- An edge is refused. -/
noncomputable def F14r : FSpec := fun args h k => match args, h with
  | [.pointer (some ⟨0, 0, none⟩), .int .i64 c], [some ⟨true, 1, [.vals [.slice (some ⟨1, o, none⟩) n cp]]⟩, some ⟨true, 1, [.ints .i64 N l]⟩] =>
    bif chk (o + n ≤ N ∧ n ≤ 100 ∧ (c < 0 ∨ 0 < n ∧ c < l.getD (o + (n - 1)) 0)) then
      k (w63 2) [wL (.slice (some ⟨1, o, none⟩) n cp), oI N l] else none
  | _, _ => none
theorem mk_nil : SpecOK Try.prog (mkS []) := mkS_nil _
theorem ok14a : EntryOK Try.prog 14 F14a := by
  refine EntryOK.of_paths (fn := Try.f14) follows_ok Try.func14 (by kernel_rfl) (by kernel_rfl) ?_
  intro args h k out hF
  unfold F14a at hF
  split at hF
  · rename_i c o n cp N l
    obtain ⟨hb, hF2⟩ := bif_t hF
    obtain ⟨h1, h2, h3, h4⟩ := chk_iff.1 hb
    refine ⟨_, _, hF2, fun _ => ?_⟩
    have e : List.take n (List.take n (List.drop o l)) = curL o n l := by rw [List.take_take, Nat.min_self]; rfl
    by_cases h0 : 0 < n
    · have h5 := h4 h0
      have e2 : ((n : Int) - 1).toNat = n - 1 := by omega
      rw [← e2] at h5
      by_cases h8 : 8 ≤ n
      · refine ⟨_, noL, mk_nil.on _, noL_ok, (p14a2 c o n N cp l).trans ?_⟩
        rw [e, (offN_l h8).1, (offN_l h8).2, show (((n + 1 : Nat) : Int) - 1).toNat = n by omega]
      · refine ⟨_, noL, mk_nil.on _, noL_ok, (p14a1 c o n N cp l).trans ?_⟩
        rw [e, (offN_s h8).1, (offN_s h8).2]
    · refine ⟨_, noL, mk_nil.on _, noL_ok, (p14a0 c o n N cp l).trans ?_⟩
      rw [e, (offN_s (by omega)).1, (offN_s (by omega)).2]
  · cases hF
theorem ok14r : EntryOK Try.prog 14 F14r := by
  refine EntryOK.of_paths (fn := Try.f14) follows_ok Try.func14 (by kernel_rfl) (by kernel_rfl) ?_
  intro args h k out hF
  unfold F14r at hF
  split at hF
  · rename_i c o n cp N l
    obtain ⟨hb, hF2⟩ := bif_t hF
    obtain ⟨h1, h2, h3⟩ := chk_iff.1 hb
    refine ⟨_, _, hF2, fun _ => ?_⟩
    by_cases hc : c < 0
    · exact ⟨_, noL, mk_nil.on _, noL_ok, p14r1 c o n N cp l⟩
    · have h5 : c < l.getD (o + ((n : Int) - 1).toNat) 0 := by rw [show ((n : Int) - 1).toNat = n - 1 by omega]; omega
      exact ⟨_, noL, mk_nil.on _, noL_ok, p14r2 c o n N cp l⟩
  · cases hF
end Go.Proofs.Ytpidmcpnkfgcjaa.VC
