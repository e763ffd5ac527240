/- MedianPlays: the rounds. -/
import Derived.Test.YthdeanljgdjbhaaMXA
namespace Go.Proofs.Ythdeanljgdjbhaa.VC
open Go Go.Proofs

theorem loop3i (n r : Int) (N i k o c N' : Nat) (gs xs l : List Int) (hk : k ≤ 1000) : ∀ (m j : Nat) (ys : List Int), j + m = k →
    LoopT Try.prog Try.f3.ntmps 1 inner3 (zipS live3i (st3i n r N i k j)) (hp3i n N k o c N' gs xs l ys) (.exit 2)
      (zipS live3i (st3i n r N i k k)) [rB false N gs, mB true n (sl 2 k 1), rB true k xs, mB true n (slW 4 o k c), rB true N' l, none]
  | 0, j, ys, hj => by
    obtain rfl : j = k := hj
    refine LoopT.weakE (LoopT.last (by simp) (CodeT.out (S := (mkS []).on [(122, false)]) mk0 noL_ok (fun on out => p3ix n r N i j o c N' gs xs l ys on out))) (WeakS.ext (fun id blk h => ?_) (by simp))
    match id, h with
    | 0, h => exact h
    | 1, h => exact h
    | 2, h => exact h
    | 3, h => exact h
    | 4, h => exact h
    | 5, h => cases h
  | m + 1, j, ys, hj => LoopT.step (CodeT.on (S := (mkS []).on [(122, true)]) mk0 noL_ok (fun on out => p3i n r N i k j o c N' gs xs l ys on out)) (loop3i n r N i k o c N' gs xs l hk m (j + 1) _ (by omega))
noncomputable def L3if : LF := fun vs h k => match vs, h with
  | [.bool false, .int .i64 n, .int .i64 r, .slice (some ⟨0, 0, none⟩) N 2, .int .i64 N2, .int .i64 i, .pointer (some ⟨1, 0, none⟩), .pointer (some ⟨3, 0, none⟩), .slice (some ⟨5, 0, none⟩) m 1, .int .i64 m2, .int .i64 0],
    [some ⟨false, 1, [.ints .i64 N3 gs]⟩, some ⟨true, 2, [.ints .i64 1 [n2], .vals [.slice (some ⟨2, 0, none⟩) m3 1]]⟩, some ⟨true, 1, [.ints .i64 m4 xs]⟩, some ⟨true, 2, [.ints .i64 1 [n3], .vals [.slice (some ⟨4, o, none⟩) m5 c]]⟩, some ⟨true, 1, [.ints .i64 N' l]⟩, some ⟨true, 1, [.ints .i64 m6 _]⟩] =>
    bif chk (N2 = N ∧ N3 = N ∧ 0 ≤ i ∧ n2 = n ∧ n3 = n ∧ m2 = m ∧ m3 = m ∧ m4 = m ∧ m5 = m ∧ m6 = m ∧ m ≤ 1000) then
      k (.exit 2) (st3i n r N i.toNat m m) [rB false N gs, mB true n (sl 2 m 1), rB true m xs, mB true n (slW 4 o m c), rB true N' l, none] else none
  | _, _ => none
noncomputable def L3i : LSpec := oneL 27 live3i L3if
theorem loopOK3i : LoopOK Try.prog Try.f3.ntmps 1 inner3 live3i L3if := by
  refine LoopOK.of_T ?_
  intro vs h k out hk
  unfold L3if at hk
  split at hk
  · obtain ⟨hb, hk2⟩ := bif_t hk
    obtain ⟨rfl, rfl, hi, rfl, rfl, rfl, rfl, rfl, rfl, rfl, hm⟩ := chk_iff.1 hb
    refine ⟨_, _, _, hk2, fun _ => ?_⟩
    obtain ⟨i, rfl⟩ := Int.eq_ofNat_of_zero_le hi
    exact loop3i _ _ _ _ _ _ _ _ _ _ _ hm _ 0 _ (Nat.zero_add _)
  · cases hk
theorem loopsI3 : LoopsOK Try.prog L3i Try.f3.ntmps 1 (loopOf Try.f3 0) := loops_one rfl (by kernel_rfl) loopOK3i
def live3 : List Nat := [6, 0, 2, 52, 53, 54, 7, 9]
abbrev st3N (n r : Int) (N i : Nat) : List Value := [.bool false, w63 n, w63 r, sl 0 N 2, w63 N, w63 i, pt 1, pt 2]
abbrev st3 (n r : Int) (N i : Nat) : List Value := [.bool false, w63 n, w63 r, sl 0 N 2, w63 N, w63 i, pt 1, pt 3]
abbrev hp3N (n : Int) (N : Nat) (gs : List Int) : Heap := [rB false N gs, mB true n (.slice none 0 0), mB true n (.slice none 0 0)]
abbrev hp3 (n : Int) (N k o N' : Nat) (gs xs l : List Int) : Heap := [rB false N gs, mB true n (sl 2 k 1), rB true k xs, mB true n (slW 4 o k 1), rB true N' l]
--CP p3A (n r : Int) (N i : Nat) (gs : List Int) (on : List Value → Heap → Out) (out : Exit → List Value → Heap → Out) :: roundK Try.prog (S3.on [(55, true), (63, false), (87, false), (118, false)]) L3i Try.f3.ntmps 1 (loopOf Try.f3 0) live3 (st3N n r N i) (hp3N n N gs) on out
theorem p3A (n r : Int) (N i : Nat) (gs : List Int) (on : List Value → Heap → Out) (out : Exit → List Value → Heap → Out)
    (w1 : -9223372036854775808 ≤ (↑i : Int) + (1 : Int) ∧ (↑i : Int) + (1 : Int) ≤ 9223372036854775807 := by omega)
    (h1 : (↑i : Int) < (↑N : Int) := by first | omega | assumption | rfl)
    (h2 : (0 : Int) ≤ (↑i : Int) := by first | omega | assumption | rfl)
    (h3 : i < N := by first | omega | assumption | rfl)
    (h4 : (↑i : Int) ≠ r := by first | omega | assumption | rfl)
    (h5 : (1 : Int) ≤ n := by first | omega | assumption | rfl)
    (h6 : gs.getD i (0 : Int) = gs.getD i (0 : Int) := by first | omega | assumption | rfl)
    (h7 : (1 : Nat) ≤ (1 : Nat) ∧ (1 : Nat) ≤ (1000 : Nat) ∧ (1 : Nat) = (1 : Nat) ∧ [gs.getD i (0 : Int)].length = (1 : Nat) := by first | omega | assumption | rfl | ((repeat' with_reducible apply And.intro) <;> first | rfl | assumption | omega))
    (h8 : [gs.getD i (0 : Int)].length = (1 : Nat) ∧ (1 : Nat) ≤ (1 : Nat) ∧ (1 : Nat) ≤ (1000 : Nat) ∧ (1 : Nat) ≤ (1 : Nat) := by first | omega | assumption | rfl | ((repeat' with_reducible apply And.intro) <;> first | rfl | assumption | omega))
    (h9 : mid [gs.getD i (0 : Int)] = mid (winL [gs.getD i (0 : Int)] (0 : Nat) (1 : Nat)) := by first | omega | assumption | rfl)
    (h10 : (1 : Nat) = (1 : Nat) ∧ (1 : Nat) = (1 : Nat) ∧ (1 : Nat) ≤ (1000 : Nat) ∧ (1 : Nat) ≤ (1 : Nat) ∧ [gs.getD i (0 : Int)] = winL [gs.getD i (0 : Int)] (0 : Nat) (1 : Nat) := by first | omega | assumption | rfl | ((repeat' with_reducible apply And.intro) <;> first | rfl | assumption | omega))
    (h11 : (↑N : Int) = (↑N : Int) ∧ N = N ∧ (0 : Int) ≤ (↑i : Int) ∧ n = n ∧ n = n ∧ (1 : Int) = (1 : Int) ∧ (1 : Nat) = (1 : Nat) ∧ (1 : Nat) = (1 : Nat) ∧ (1 : Nat) = (1 : Nat) ∧ (1 : Nat) = (1 : Nat) ∧ (1 : Nat) ≤ (1000 : Nat) := by first | omega | assumption | rfl | ((repeat' with_reducible apply And.intro) <;> first | rfl | assumption | omega)) : roundK Try.prog (S3.on [(55, true), (63, false), (87, false), (118, false)]) L3i Try.f3.ntmps 1 (loopOf Try.f3 0) live3 (st3N n r N i) (hp3N n N gs) on out =
     (on [Value.bool false, Value.int IntKind.i64 n, Value.int IntKind.i64 r, Value.slice (some (Addr.mk (0 : Nat) (0 : Nat) none)) N (2 : Nat), Value.int IntKind.i64 (↑N : Int), Value.int IntKind.i64 ((↑i
     : Int) + (1 : Int)), Value.pointer (some (Addr.mk (1 : Nat) (0 : Nat) none)), Value.pointer (some (Addr.mk (3 : Nat) (0 : Nat) none))] [some (Blk.mk false (1 : Nat) [Seg.ints IntKind.i64 N gs]), some
     (Blk.mk true (2 : Nat) [Seg.ints IntKind.i64 (1 : Nat) [n], Seg.vals [Value.slice (some (Addr.mk (2 : Nat) (0 : Nat) none)) (1 : Nat) (1 : Nat)]]), some (Blk.mk true (1 : Nat) [Seg.ints IntKind.i64 (1
     : Nat) [gs.getD i (0 : Int)]]), some (Blk.mk true (2 : Nat) [Seg.ints IntKind.i64 (1 : Nat) [n], Seg.vals [Value.slice (some (Addr.mk (4 : Nat) (0 : Nat) none)) (1 : Nat) (1 : Nat)]]), some (Blk.mk
     true (1 : Nat) [Seg.ints IntKind.i64 (1 : Nat) [gs.getD i (0 : Int)]])]) :=
  Eq.trans (b :=
     bif decide ((↑i : Int) < (↑N : Int)) then bif decide ((0 : Int) ≤ (↑i : Int)) && decide ((↑i : Int) < (↑N : Int)) then bif ((0 : Nat) + (↑i : Int).toNat * (1 : Nat)).blt N then bif (↑i : Int) == r
     then none else bif chk ((1 : Int) ≤ n) then bif chk ((1 : Int) ≤ n) then bif gs.getD ((0 : Nat) + (↑i : Int).toNat * (1 : Nat)) (0 : Int) != gs.getD ((0 : Nat) + (↑i : Int).toNat * (1 : Nat)) (0 :
     Int) then none else bif chk ((1 : Int) ≤ n) then bif chk ((1 : Nat) ≤ (1 : Nat) ∧ (1 : Nat) ≤ (1000 : Nat) ∧ (1 : Nat) = (1 : Nat) ∧ [gs.getD ((0 : Nat) + (↑i : Int).toNat * (1 : Nat)) (0 :
     Int)].length = (1 : Nat)) then bif chk ((1 : Nat) ≤ (1 : Nat) ∧ (1 : Nat) ≤ (1000 : Nat) ∧ (1 : Nat) = (1 : Nat) ∧ [gs.getD ((0 : Nat) + (↑i : Int).toNat * (1 : Nat)) (0 : Int)].length = (1 : Nat))
     then bif chk ([gs.getD ((0 : Nat) + (↑i : Int).toNat * (1 : Nat)) (0 : Int)].length = (1 : Nat) ∧ (1 : Nat) ≤ (1 : Nat) ∧ (1 : Nat) ≤ (1000 : Nat) ∧ (1 : Nat) ≤ (1 : Nat)) then bif mid [gs.getD ((0 :
     Nat) + (↑i : Int).toNat * (1 : Nat)) (0 : Int)] != mid (winL [gs.getD ((0 : Nat) + (↑i : Int).toNat * (1 : Nat)) (0 : Int)] (0 : Nat) (1 : Nat)) then none else bif chk ((1 : Nat) = (1 : Nat) ∧ (1 :
     Nat) = (1 : Nat) ∧ (1 : Nat) ≤ (1000 : Nat) ∧ (1 : Nat) ≤ (1 : Nat) ∧ [gs.getD ((0 : Nat) + (↑i : Int).toNat * (1 : Nat)) (0 : Int)] = winL [gs.getD ((0 : Nat) + (↑i : Int).toNat * (1 : Nat)) (0 :
     Int)] (0 : Nat) (1 : Nat)) then bif chk ((↑N : Int) = (↑N : Int) ∧ N = N ∧ (0 : Int) ≤ (↑i : Int) ∧ n = n ∧ n = n ∧ (1 : Int) = (1 : Int) ∧ (1 : Nat) = (1 : Nat) ∧ (1 : Nat) = (1 : Nat) ∧ (1 : Nat) =
     (1 : Nat) ∧ (1 : Nat) = (1 : Nat) ∧ (1 : Nat) ≤ (1000 : Nat)) then on [Value.bool false, Value.int IntKind.i64 n, Value.int IntKind.i64 r, Value.slice (some (Addr.mk (0 : Nat) (0 : Nat) none)) N (2 :
     Nat), Value.int IntKind.i64 (↑N : Int), Value.int IntKind.i64 (IntKind.i64.wrap ((↑(↑i : Int).toNat : Int) + (1 : Int))), Value.pointer (some (Addr.mk (1 : Nat) (0 : Nat) none)), Value.pointer (some
     (Addr.mk (3 : Nat) (0 : Nat) none))] [some (Blk.mk false (1 : Nat) [Seg.ints IntKind.i64 N gs]), some (Blk.mk true (2 : Nat) [Seg.ints IntKind.i64 (1 : Nat) [n], Seg.vals [Value.slice (some (Addr.mk
     (2 : Nat) (0 : Nat) none)) (1 : Nat) (1 : Nat)]]), some (Blk.mk true (1 : Nat) [Seg.ints IntKind.i64 (1 : Nat) [gs.getD ((0 : Nat) + (↑i : Int).toNat * (1 : Nat)) (0 : Int)]]), some (Blk.mk true (2 :
     Nat) [Seg.ints IntKind.i64 (1 : Nat) [n], Seg.vals [Value.slice (some (Addr.mk (4 : Nat) (0 : Nat) none)) (1 : Nat) (1 : Nat)]]), some (Blk.mk true (1 : Nat) [Seg.ints IntKind.i64 (1 : Nat) [gs.getD
     ((0 : Nat) + (↑i : Int).toNat * (1 : Nat)) (0 : Int)]])] else none else none else none else none else none else none else none else none else none else none else none) (by kernel_rfl) (by simp only [-eq_self, Int.toNat_natCast, Nat.mul_one, Nat.zero_add, swrap w1.1 w1.2]; exact (go_t (dec_t h1) (go_t (and_t (dec_t h2) (dec_t h1)) (go_t (blt_t h3) (go_f (eqb_f h4) (go_t (chk_t h5) (go_t (chk_t h5) (go_f (bne_f h6) (go_t (chk_t h5) (go_t (chk_t h7) (go_t (chk_t h7) (go_t (chk_t h8) (go_f (bne_f h9) (go_t (chk_t h10) (go_t (chk_t h11) rfl)))))))))))))))
--CFEND
--CP p3Ar (n r : Int) (N i : Nat) (gs : List Int) (on : List Value → Heap → Out) (out : Exit → List Value → Heap → Out) :: roundK Try.prog (S3.on [(55, true), (63, true), (80, false), (87, false), (118, false)]) L3i Try.f3.ntmps 1 (loopOf Try.f3 0) live3 (st3N n r N i) (hp3N n N gs) on out
theorem p3Ar (n r : Int) (N i : Nat) (gs : List Int) (on : List Value → Heap → Out) (out : Exit → List Value → Heap → Out)
    (w1 : -9223372036854775808 ≤ (↑i : Int) + (1 : Int) ∧ (↑i : Int) + (1 : Int) ≤ 9223372036854775807 := by omega)
    (h1 : (↑i : Int) < (↑N : Int) := by first | omega | assumption | rfl)
    (h2 : (0 : Int) ≤ (↑i : Int) := by first | omega | assumption | rfl)
    (h3 : i < N := by first | omega | assumption | rfl)
    (h4 : (↑i : Int) = r := by first | omega | assumption | rfl)
    (h5 : (1 : Int) ≤ n := by first | omega | assumption | rfl)
    (h6 : gs.getD i (0 : Int) = gs.getD i (0 : Int) := by first | omega | assumption | rfl)
    (h7 : (1 : Nat) ≤ (1 : Nat) ∧ (1 : Nat) ≤ (1000 : Nat) ∧ (1 : Nat) = (1 : Nat) ∧ [gs.getD i (0 : Int)].length = (1 : Nat) := by first | omega | assumption | rfl | ((repeat' with_reducible apply And.intro) <;> first | rfl | assumption | omega))
    (h8 : [gs.getD i (0 : Int)].length = (1 : Nat) ∧ (1 : Nat) ≤ (1 : Nat) ∧ (1 : Nat) ≤ (1000 : Nat) ∧ (1 : Nat) ≤ (1 : Nat) := by first | omega | assumption | rfl | ((repeat' with_reducible apply And.intro) <;> first | rfl | assumption | omega))
    (h9 : mid [gs.getD i (0 : Int)] = mid (winL [gs.getD i (0 : Int)] (0 : Nat) (1 : Nat)) := by first | omega | assumption | rfl)
    (h10 : (1 : Nat) = (1 : Nat) ∧ (1 : Nat) = (1 : Nat) ∧ (1 : Nat) ≤ (1000 : Nat) ∧ (1 : Nat) ≤ (1 : Nat) ∧ [gs.getD i (0 : Int)] = winL [gs.getD i (0 : Int)] (0 : Nat) (1 : Nat) := by first | omega | assumption | rfl | ((repeat' with_reducible apply And.intro) <;> first | rfl | assumption | omega))
    (h11 : (↑N : Int) = (↑N : Int) ∧ N = N ∧ (0 : Int) ≤ (↑i : Int) ∧ n = n ∧ n = n ∧ (1 : Int) = (1 : Int) ∧ (1 : Nat) = (1 : Nat) ∧ (1 : Nat) = (1 : Nat) ∧ (1 : Nat) = (1 : Nat) ∧ (1 : Nat) = (1 : Nat) ∧ (1 : Nat) ≤ (1000 : Nat) := by first | omega | assumption | rfl | ((repeat' with_reducible apply And.intro) <;> first | rfl | assumption | omega)) : roundK Try.prog (S3.on [(55, true), (63, true), (80, false), (87, false), (118, false)]) L3i Try.f3.ntmps 1 (loopOf Try.f3 0) live3 (st3N n r N i) (hp3N n N gs) on out =
     (on [Value.bool false, Value.int IntKind.i64 n, Value.int IntKind.i64 r, Value.slice (some (Addr.mk (0 : Nat) (0 : Nat) none)) N (2 : Nat), Value.int IntKind.i64 (↑N : Int), Value.int IntKind.i64 ((↑i
     : Int) + (1 : Int)), Value.pointer (some (Addr.mk (1 : Nat) (0 : Nat) none)), Value.pointer (some (Addr.mk (3 : Nat) (0 : Nat) none))] [some (Blk.mk false (1 : Nat) [Seg.ints IntKind.i64 N gs]), some
     (Blk.mk true (2 : Nat) [Seg.ints IntKind.i64 (1 : Nat) [n], Seg.vals [Value.slice (some (Addr.mk (2 : Nat) (0 : Nat) none)) (1 : Nat) (1 : Nat)]]), some (Blk.mk true (1 : Nat) [Seg.ints IntKind.i64 (1
     : Nat) [gs.getD i (0 : Int)]]), some (Blk.mk true (2 : Nat) [Seg.ints IntKind.i64 (1 : Nat) [n], Seg.vals [Value.slice (some (Addr.mk (4 : Nat) (0 : Nat) none)) (1 : Nat) (1 : Nat)]]), some (Blk.mk
     true (1 : Nat) [Seg.ints IntKind.i64 (1 : Nat) [gs.getD i (0 : Int)]])]) :=
  Eq.trans (b :=
     bif decide ((↑i : Int) < (↑N : Int)) then bif decide ((0 : Int) ≤ (↑i : Int)) && decide ((↑i : Int) < (↑N : Int)) then bif ((0 : Nat) + (↑i : Int).toNat * (1 : Nat)).blt N then bif (↑i : Int) == r
     then bif chk ((1 : Int) ≤ n) then bif chk ((1 : Int) ≤ n) then bif gs.getD ((0 : Nat) + (↑i : Int).toNat * (1 : Nat)) (0 : Int) != gs.getD ((0 : Nat) + (↑i : Int).toNat * (1 : Nat)) (0 : Int) then
     none else bif chk ((1 : Int) ≤ n) then bif chk ((1 : Nat) ≤ (1 : Nat) ∧ (1 : Nat) ≤ (1000 : Nat) ∧ (1 : Nat) = (1 : Nat) ∧ [gs.getD ((0 : Nat) + (↑i : Int).toNat * (1 : Nat)) (0 : Int)].length = (1 :
     Nat)) then bif chk ((1 : Nat) ≤ (1 : Nat) ∧ (1 : Nat) ≤ (1000 : Nat) ∧ (1 : Nat) = (1 : Nat) ∧ [gs.getD ((0 : Nat) + (↑i : Int).toNat * (1 : Nat)) (0 : Int)].length = (1 : Nat)) then bif chk ([gs.getD
     ((0 : Nat) + (↑i : Int).toNat * (1 : Nat)) (0 : Int)].length = (1 : Nat) ∧ (1 : Nat) ≤ (1 : Nat) ∧ (1 : Nat) ≤ (1000 : Nat) ∧ (1 : Nat) ≤ (1 : Nat)) then bif mid [gs.getD ((0 : Nat) + (↑i : Int).toNat
     * (1 : Nat)) (0 : Int)] != mid (winL [gs.getD ((0 : Nat) + (↑i : Int).toNat * (1 : Nat)) (0 : Int)] (0 : Nat) (1 : Nat)) then none else bif chk ((1 : Nat) = (1 : Nat) ∧ (1 : Nat) = (1 : Nat) ∧ (1 :
     Nat) ≤ (1000 : Nat) ∧ (1 : Nat) ≤ (1 : Nat) ∧ [gs.getD ((0 : Nat) + (↑i : Int).toNat * (1 : Nat)) (0 : Int)] = winL [gs.getD ((0 : Nat) + (↑i : Int).toNat * (1 : Nat)) (0 : Int)] (0 : Nat) (1 : Nat))
     then bif chk ((↑N : Int) = (↑N : Int) ∧ N = N ∧ (0 : Int) ≤ (↑i : Int) ∧ n = n ∧ n = n ∧ (1 : Int) = (1 : Int) ∧ (1 : Nat) = (1 : Nat) ∧ (1 : Nat) = (1 : Nat) ∧ (1 : Nat) = (1 : Nat) ∧ (1 : Nat) = (1
     : Nat) ∧ (1 : Nat) ≤ (1000 : Nat)) then on [Value.bool false, Value.int IntKind.i64 n, Value.int IntKind.i64 r, Value.slice (some (Addr.mk (0 : Nat) (0 : Nat) none)) N (2 : Nat), Value.int IntKind.i64
     (↑N : Int), Value.int IntKind.i64 (IntKind.i64.wrap ((↑(↑i : Int).toNat : Int) + (1 : Int))), Value.pointer (some (Addr.mk (1 : Nat) (0 : Nat) none)), Value.pointer (some (Addr.mk (3 : Nat) (0 : Nat)
     none))] [some (Blk.mk false (1 : Nat) [Seg.ints IntKind.i64 N gs]), some (Blk.mk true (2 : Nat) [Seg.ints IntKind.i64 (1 : Nat) [n], Seg.vals [Value.slice (some (Addr.mk (2 : Nat) (0 : Nat) none)) (1
     : Nat) (1 : Nat)]]), some (Blk.mk true (1 : Nat) [Seg.ints IntKind.i64 (1 : Nat) [gs.getD ((0 : Nat) + (↑i : Int).toNat * (1 : Nat)) (0 : Int)]]), some (Blk.mk true (2 : Nat) [Seg.ints IntKind.i64 (1
     : Nat) [n], Seg.vals [Value.slice (some (Addr.mk (4 : Nat) (0 : Nat) none)) (1 : Nat) (1 : Nat)]]), some (Blk.mk true (1 : Nat) [Seg.ints IntKind.i64 (1 : Nat) [gs.getD ((0 : Nat) + (↑i : Int).toNat *
     (1 : Nat)) (0 : Int)]])] else none else none else none else none else none else none else none else none else none else none else none else none) (by kernel_rfl) (by simp only [-eq_self, Int.toNat_natCast, Nat.mul_one, Nat.zero_add, swrap w1.1 w1.2]; exact (go_t (dec_t h1) (go_t (and_t (dec_t h2) (dec_t h1)) (go_t (blt_t h3) (go_t (eqb_t h4) (go_t (chk_t h5) (go_t (chk_t h5) (go_f (bne_f h6) (go_t (chk_t h5) (go_t (chk_t h7) (go_t (chk_t h7) (go_t (chk_t h8) (go_f (bne_f h9) (go_t (chk_t h10) (go_t (chk_t h11) rfl)))))))))))))))
--CFEND
--CP p3B (n r : Int) (N i k o N' : Nat) (gs xs l : List Int) (on : List Value → Heap → Out) (out : Exit → List Value → Heap → Out) :: roundK Try.prog (S3.on [(55, true), (63, false), (87, false), (118, false)]) L3i Try.f3.ntmps 1 (loopOf Try.f3 0) live3 (st3 n r N i) (hp3 n N k o N' gs xs l) on out
theorem p3B (n r : Int) (N i k o N' : Nat) (gs xs l : List Int) (on : List Value → Heap → Out) (out : Exit → List Value → Heap → Out)
    (w1 : -9223372036854775808 ≤ (↑i : Int) + (1 : Int) ∧ (↑i : Int) + (1 : Int) ≤ 9223372036854775807 := by omega)
    (h1 : (↑i : Int) < (↑N : Int) := by first | omega | assumption | rfl)
    (h2 : (0 : Int) ≤ (↑i : Int) := by first | omega | assumption | rfl)
    (h3 : i < N := by first | omega | assumption | rfl)
    (h4 : (1 : Nat) ≤ k ∧ k ≤ (1000 : Nat) ∧ k = k ∧ xs.length = k := by first | omega | assumption | rfl | ((repeat' with_reducible apply And.intro) <;> first | rfl | assumption | omega))
    (h5 : (↑i : Int) ≠ r := by first | omega | assumption | rfl)
    (h6 : (1 : Nat) ≤ k ∧ k ≤ (15 : Nat) ∧ k = k ∧ xs.length = k ∧ (1 : Nat) = (1 : Nat) ∧ (↑k : Int) ≤ n := by first | omega | assumption | rfl | ((repeat' with_reducible apply And.intro) <;> first | rfl | assumption | omega))
    (h7 : l.length = N' ∧ o + k ≤ N' ∧ (1 : Nat) ≤ k ∧ k ≤ (15 : Nat) ∧ (↑k : Int) ≤ n := by first | omega | assumption | rfl | ((repeat' with_reducible apply And.intro) <;> first | rfl | assumption | omega))
    (h8 : mid (pushW n xs (gs.getD i (0 : Int))) = mid (pushW n (winL l o k) (gs.getD i (0 : Int))) := by first | omega | assumption | rfl)
    (h9 : (1 : Nat) ≤ (pushW n xs (gs.getD i (0 : Int))).length ∧ (pushW n xs (gs.getD i (0 : Int))).length ≤ (1000 : Nat) ∧ (pushW n xs (gs.getD i (0 : Int))).length = (pushW n xs (gs.getD i (0 : Int))).length ∧ (pushW n xs (gs.getD i (0 : Int))).length = (pushW n xs (gs.getD i (0 : Int))).length := by first | omega | assumption | rfl | ((repeat' with_reducible apply And.intro) <;> first | rfl | assumption | omega))
    (h10 : (winL l o k ++ [gs.getD i (0 : Int)]).length = k + (1 : Nat) ∧ offW n k + (pushW n (winL l o k) (gs.getD i (0 : Int))).length ≤ k + (1 : Nat) ∧ (pushW n (winL l o k) (gs.getD i (0 : Int))).length ≤ (1000 : Nat) ∧ (1 : Nat) ≤ (pushW n (winL l o k) (gs.getD i (0 : Int))).length := by first | omega | assumption | rfl | ((repeat' with_reducible apply And.intro) <;> first | rfl | assumption | omega))
    (h11 : mid (pushW n xs (gs.getD i (0 : Int))) = mid (winL (winL l o k ++ [gs.getD i (0 : Int)]) (offW n k) (pushW n (winL l o k) (gs.getD i (0 : Int))).length) := by first | omega | assumption | rfl)
    (h12 : (pushW n (winL l o k) (gs.getD i (0 : Int))).length = (pushW n xs (gs.getD i (0 : Int))).length ∧ (pushW n xs (gs.getD i (0 : Int))).length = (pushW n xs (gs.getD i (0 : Int))).length ∧ (pushW n xs (gs.getD i (0 : Int))).length ≤ (1000 : Nat) ∧ offW n k + (pushW n xs (gs.getD i (0 : Int))).length ≤ k + (1 : Nat) ∧ pushW n xs (gs.getD i (0 : Int)) = winL (winL l o k ++ [gs.getD i (0 : Int)]) (offW n k) (pushW n xs (gs.getD i (0 : Int))).length := by first | omega | assumption | rfl | ((repeat' with_reducible apply And.intro) <;> first | rfl | assumption | omega))
    (h13 : (↑N : Int) = (↑N : Int) ∧ N = N ∧ (0 : Int) ≤ (↑i : Int) ∧ n = n ∧ n = n ∧ (↑(pushW n xs (gs.getD i (0 : Int))).length : Int) = (↑(pushW n xs (gs.getD i (0 : Int))).length : Int) ∧ (pushW n xs (gs.getD i (0 : Int))).length = (pushW n xs (gs.getD i (0 : Int))).length ∧ (pushW n xs (gs.getD i (0 : Int))).length = (pushW n xs (gs.getD i (0 : Int))).length ∧ (pushW n (winL l o k) (gs.getD i (0 : Int))).length = (pushW n xs (gs.getD i (0 : Int))).length ∧ (pushW n xs (gs.getD i (0 : Int))).length = (pushW n xs (gs.getD i (0 : Int))).length ∧ (pushW n xs (gs.getD i (0 : Int))).length ≤ (1000 : Nat) := by first | omega | assumption | rfl | ((repeat' with_reducible apply And.intro) <;> first | rfl | assumption | omega)) : roundK Try.prog (S3.on [(55, true), (63, false), (87, false), (118, false)]) L3i Try.f3.ntmps 1 (loopOf Try.f3 0) live3 (st3 n r N i) (hp3 n N k o N' gs xs l) on out =
     (on [Value.bool false, Value.int IntKind.i64 n, Value.int IntKind.i64 r, Value.slice (some (Addr.mk (0 : Nat) (0 : Nat) none)) N (2 : Nat), Value.int IntKind.i64 (↑N : Int), Value.int IntKind.i64 ((↑i
     : Int) + (1 : Int)), Value.pointer (some (Addr.mk (1 : Nat) (0 : Nat) none)), Value.pointer (some (Addr.mk (3 : Nat) (0 : Nat) none))] [some (Blk.mk false (1 : Nat) [Seg.ints IntKind.i64 N gs]), some
     (Blk.mk true (2 : Nat) [Seg.ints IntKind.i64 (1 : Nat) [n], Seg.vals [Value.slice (some (Addr.mk (2 : Nat) (0 : Nat) none)) (pushW n xs (gs.getD i (0 : Int))).length (1 : Nat)]]), some (Blk.mk true (1
     : Nat) [Seg.ints IntKind.i64 (pushW n xs (gs.getD i (0 : Int))).length (pushW n xs (gs.getD i (0 : Int)))]), some (Blk.mk true (2 : Nat) [Seg.ints IntKind.i64 (1 : Nat) [n], Seg.vals [Value.slice
     (some (Addr.mk (4 : Nat) (offW n k) none)) (pushW n xs (gs.getD i (0 : Int))).length (1 : Nat)]]), some (Blk.mk true (1 : Nat) [Seg.ints IntKind.i64 (k + (1 : Nat)) (winL l o k ++ [gs.getD i (0 :
     Int)])])]) :=
  Eq.trans (b :=
     bif decide ((↑i : Int) < (↑N : Int)) then bif decide ((0 : Int) ≤ (↑i : Int)) && decide ((↑i : Int) < (↑N : Int)) then bif ((0 : Nat) + (↑i : Int).toNat * (1 : Nat)).blt N then bif chk ((1 : Nat) ≤ k
     ∧ k ≤ (1000 : Nat) ∧ k = k ∧ xs.length = k) then bif (↑i : Int) == r then none else bif chk ((1 : Nat) ≤ k ∧ k ≤ (15 : Nat) ∧ k = k ∧ xs.length = k ∧ (1 : Nat) = (1 : Nat) ∧ (↑k : Int) ≤ n) then bif
     chk (l.length = N' ∧ o + k ≤ N' ∧ (1 : Nat) ≤ k ∧ k ≤ (15 : Nat) ∧ (↑k : Int) ≤ n) then bif mid (pushW n xs (gs.getD ((0 : Nat) + (↑i : Int).toNat * (1 : Nat)) (0 : Int))) != mid (pushW n (winL l o k)
     (gs.getD ((0 : Nat) + (↑i : Int).toNat * (1 : Nat)) (0 : Int))) then none else bif chk ((1 : Nat) ≤ k ∧ k ≤ (15 : Nat) ∧ k = k ∧ xs.length = k ∧ (1 : Nat) = (1 : Nat) ∧ (↑k : Int) ≤ n) then bif chk
     ((1 : Nat) ≤ (pushW n xs (gs.getD ((0 : Nat) + (↑i : Int).toNat * (1 : Nat)) (0 : Int))).length ∧ (pushW n xs (gs.getD ((0 : Nat) + (↑i : Int).toNat * (1 : Nat)) (0 : Int))).length ≤ (1000 : Nat) ∧
     (pushW n xs (gs.getD ((0 : Nat) + (↑i : Int).toNat * (1 : Nat)) (0 : Int))).length = (pushW n xs (gs.getD ((0 : Nat) + (↑i : Int).toNat * (1 : Nat)) (0 : Int))).length ∧ (pushW n xs (gs.getD ((0 :
     Nat) + (↑i : Int).toNat * (1 : Nat)) (0 : Int))).length = (pushW n xs (gs.getD ((0 : Nat) + (↑i : Int).toNat * (1 : Nat)) (0 : Int))).length) then bif chk ((1 : Nat) ≤ (pushW n xs (gs.getD ((0 : Nat)
     + (↑i : Int).toNat * (1 : Nat)) (0 : Int))).length ∧ (pushW n xs (gs.getD ((0 : Nat) + (↑i : Int).toNat * (1 : Nat)) (0 : Int))).length ≤ (1000 : Nat) ∧ (pushW n xs (gs.getD ((0 : Nat) + (↑i :
     Int).toNat * (1 : Nat)) (0 : Int))).length = (pushW n xs (gs.getD ((0 : Nat) + (↑i : Int).toNat * (1 : Nat)) (0 : Int))).length ∧ (pushW n xs (gs.getD ((0 : Nat) + (↑i : Int).toNat * (1 : Nat)) (0 :
     Int))).length = (pushW n xs (gs.getD ((0 : Nat) + (↑i : Int).toNat * (1 : Nat)) (0 : Int))).length) then bif chk ((winL l o k ++ [gs.getD ((0 : Nat) + (↑i : Int).toNat * (1 : Nat)) (0 : Int)]).length
     = k + (1 : Nat) ∧ offW n k + (pushW n (winL l o k) (gs.getD ((0 : Nat) + (↑i : Int).toNat * (1 : Nat)) (0 : Int))).length ≤ k + (1 : Nat) ∧ (pushW n (winL l o k) (gs.getD ((0 : Nat) + (↑i : Int).toNat
     * (1 : Nat)) (0 : Int))).length ≤ (1000 : Nat) ∧ (1 : Nat) ≤ (pushW n (winL l o k) (gs.getD ((0 : Nat) + (↑i : Int).toNat * (1 : Nat)) (0 : Int))).length) then bif mid (pushW n xs (gs.getD ((0 : Nat)
     + (↑i : Int).toNat * (1 : Nat)) (0 : Int))) != mid (winL (winL l o k ++ [gs.getD ((0 : Nat) + (↑i : Int).toNat * (1 : Nat)) (0 : Int)]) (offW n k) (pushW n (winL l o k) (gs.getD ((0 : Nat) + (↑i :
     Int).toNat * (1 : Nat)) (0 : Int))).length) then none else bif chk ((pushW n (winL l o k) (gs.getD ((0 : Nat) + (↑i : Int).toNat * (1 : Nat)) (0 : Int))).length = (pushW n xs (gs.getD ((0 : Nat) + (↑i
     : Int).toNat * (1 : Nat)) (0 : Int))).length ∧ (pushW n xs (gs.getD ((0 : Nat) + (↑i : Int).toNat * (1 : Nat)) (0 : Int))).length = (pushW n xs (gs.getD ((0 : Nat) + (↑i : Int).toNat * (1 : Nat)) (0 :
     Int))).length ∧ (pushW n xs (gs.getD ((0 : Nat) + (↑i : Int).toNat * (1 : Nat)) (0 : Int))).length ≤ (1000 : Nat) ∧ offW n k + (pushW n xs (gs.getD ((0 : Nat) + (↑i : Int).toNat * (1 : Nat)) (0 :
     Int))).length ≤ k + (1 : Nat) ∧ pushW n xs (gs.getD ((0 : Nat) + (↑i : Int).toNat * (1 : Nat)) (0 : Int)) = winL (winL l o k ++ [gs.getD ((0 : Nat) + (↑i : Int).toNat * (1 : Nat)) (0 : Int)]) (offW n
     k) (pushW n xs (gs.getD ((0 : Nat) + (↑i : Int).toNat * (1 : Nat)) (0 : Int))).length) then bif chk ((↑N : Int) = (↑N : Int) ∧ N = N ∧ (0 : Int) ≤ (↑i : Int) ∧ n = n ∧ n = n ∧ (↑(pushW n xs (gs.getD
     ((0 : Nat) + (↑i : Int).toNat * (1 : Nat)) (0 : Int))).length : Int) = (↑(pushW n xs (gs.getD ((0 : Nat) + (↑i : Int).toNat * (1 : Nat)) (0 : Int))).length : Int) ∧ (pushW n xs (gs.getD ((0 : Nat) +
     (↑i : Int).toNat * (1 : Nat)) (0 : Int))).length = (pushW n xs (gs.getD ((0 : Nat) + (↑i : Int).toNat * (1 : Nat)) (0 : Int))).length ∧ (pushW n xs (gs.getD ((0 : Nat) + (↑i : Int).toNat * (1 : Nat))
     (0 : Int))).length = (pushW n xs (gs.getD ((0 : Nat) + (↑i : Int).toNat * (1 : Nat)) (0 : Int))).length ∧ (pushW n (winL l o k) (gs.getD ((0 : Nat) + (↑i : Int).toNat * (1 : Nat)) (0 : Int))).length =
     (pushW n xs (gs.getD ((0 : Nat) + (↑i : Int).toNat * (1 : Nat)) (0 : Int))).length ∧ (pushW n xs (gs.getD ((0 : Nat) + (↑i : Int).toNat * (1 : Nat)) (0 : Int))).length = (pushW n xs (gs.getD ((0 :
     Nat) + (↑i : Int).toNat * (1 : Nat)) (0 : Int))).length ∧ (pushW n xs (gs.getD ((0 : Nat) + (↑i : Int).toNat * (1 : Nat)) (0 : Int))).length ≤ (1000 : Nat)) then on [Value.bool false, Value.int
     IntKind.i64 n, Value.int IntKind.i64 r, Value.slice (some (Addr.mk (0 : Nat) (0 : Nat) none)) N (2 : Nat), Value.int IntKind.i64 (↑N : Int), Value.int IntKind.i64 (IntKind.i64.wrap ((↑(↑i : Int).toNat
     : Int) + (1 : Int))), Value.pointer (some (Addr.mk (1 : Nat) (0 : Nat) none)), Value.pointer (some (Addr.mk (3 : Nat) (0 : Nat) none))] [some (Blk.mk false (1 : Nat) [Seg.ints IntKind.i64 N gs]), some
     (Blk.mk true (2 : Nat) [Seg.ints IntKind.i64 (1 : Nat) [n], Seg.vals [Value.slice (some (Addr.mk (2 : Nat) (0 : Nat) none)) (pushW n xs (gs.getD ((0 : Nat) + (↑i : Int).toNat * (1 : Nat)) (0 :
     Int))).length (1 : Nat)]]), some (Blk.mk true (1 : Nat) [Seg.ints IntKind.i64 (pushW n xs (gs.getD ((0 : Nat) + (↑i : Int).toNat * (1 : Nat)) (0 : Int))).length (pushW n xs (gs.getD ((0 : Nat) + (↑i :
     Int).toNat * (1 : Nat)) (0 : Int)))]), some (Blk.mk true (2 : Nat) [Seg.ints IntKind.i64 (1 : Nat) [n], Seg.vals [Value.slice (some (Addr.mk (4 : Nat) (offW n k) none)) (pushW n xs (gs.getD ((0 : Nat)
     + (↑i : Int).toNat * (1 : Nat)) (0 : Int))).length (1 : Nat)]]), some (Blk.mk true (1 : Nat) [Seg.ints IntKind.i64 (k + (1 : Nat)) (winL l o k ++ [gs.getD ((0 : Nat) + (↑i : Int).toNat * (1 : Nat)) (0
     : Int)])])] else none else none else none else none else none else none else none else none else none else none else none else none) (by kernel_rfl) (by simp only [-eq_self, Int.toNat_natCast, Nat.mul_one, Nat.zero_add, swrap w1.1 w1.2]; exact (go_t (dec_t h1) (go_t (and_t (dec_t h2) (dec_t h1)) (go_t (blt_t h3) (go_t (chk_t h4) (go_f (eqb_f h5) (go_t (chk_t h6) (go_t (chk_t h7) (go_f (bne_f h8) (go_t (chk_t h6) (go_t (chk_t h9) (go_t (chk_t h9) (go_t (chk_t h10) (go_f (bne_f h11) (go_t (chk_t h12) (go_t (chk_t h13) rfl))))))))))))))))
--CFEND
--CP p3Br (n r : Int) (N i k o N' : Nat) (gs xs l : List Int) (on : List Value → Heap → Out) (out : Exit → List Value → Heap → Out) :: roundK Try.prog (S3.on [(55, true), (63, true), (80, false), (87, false), (118, false)]) L3i Try.f3.ntmps 1 (loopOf Try.f3 0) live3 (st3 n r N i) (hp3 n N k o N' gs xs l) on out
theorem p3Br (n r : Int) (N i k o N' : Nat) (gs xs l : List Int) (on : List Value → Heap → Out) (out : Exit → List Value → Heap → Out)
    (w1 : -9223372036854775808 ≤ (↑i : Int) + (1 : Int) ∧ (↑i : Int) + (1 : Int) ≤ 9223372036854775807 := by omega)
    (h1 : (↑i : Int) < (↑N : Int) := by first | omega | assumption | rfl)
    (h2 : (0 : Int) ≤ (↑i : Int) := by first | omega | assumption | rfl)
    (h3 : i < N := by first | omega | assumption | rfl)
    (h4 : (1 : Nat) ≤ k ∧ k ≤ (1000 : Nat) ∧ k = k ∧ xs.length = k := by first | omega | assumption | rfl | ((repeat' with_reducible apply And.intro) <;> first | rfl | assumption | omega))
    (h5 : (↑i : Int) = r := by first | omega | assumption | rfl)
    (h6 : k = k ∧ (1 : Nat) ≤ (2 : Nat) := by first | omega | assumption | rfl | ((repeat' with_reducible apply And.intro) <;> first | rfl | assumption | omega))
    (h7 : (1 : Int) ≤ n := by first | omega | assumption | rfl)
    (h8 : gs.getD i (0 : Int) = gs.getD i (0 : Int) := by first | omega | assumption | rfl)
    (h9 : (1 : Nat) ≤ k ∧ k ≤ (15 : Nat) ∧ k = k ∧ xs.length = k ∧ (1 : Nat) = (1 : Nat) ∧ (↑k : Int) ≤ n := by first | omega | assumption | rfl | ((repeat' with_reducible apply And.intro) <;> first | rfl | assumption | omega))
    (h10 : (1 : Nat) ≤ (1 : Nat) ∧ (1 : Nat) ≤ (1000 : Nat) ∧ (1 : Nat) = (1 : Nat) ∧ [gs.getD i (0 : Int)].length = (1 : Nat) := by first | omega | assumption | rfl | ((repeat' with_reducible apply And.intro) <;> first | rfl | assumption | omega))
    (h11 : [gs.getD i (0 : Int)].length = (1 : Nat) ∧ (1 : Nat) ≤ (1 : Nat) ∧ (1 : Nat) ≤ (1000 : Nat) ∧ (1 : Nat) ≤ (1 : Nat) := by first | omega | assumption | rfl | ((repeat' with_reducible apply And.intro) <;> first | rfl | assumption | omega))
    (h12 : mid [gs.getD i (0 : Int)] = mid (winL [gs.getD i (0 : Int)] (0 : Nat) (1 : Nat)) := by first | omega | assumption | rfl)
    (h13 : (1 : Nat) = (1 : Nat) ∧ (1 : Nat) = (1 : Nat) ∧ (1 : Nat) ≤ (1000 : Nat) ∧ (1 : Nat) ≤ (1 : Nat) ∧ [gs.getD i (0 : Int)] = winL [gs.getD i (0 : Int)] (0 : Nat) (1 : Nat) := by first | omega | assumption | rfl | ((repeat' with_reducible apply And.intro) <;> first | rfl | assumption | omega))
    (h14 : (↑N : Int) = (↑N : Int) ∧ N = N ∧ (0 : Int) ≤ (↑i : Int) ∧ n = n ∧ n = n ∧ (1 : Int) = (1 : Int) ∧ (1 : Nat) = (1 : Nat) ∧ (1 : Nat) = (1 : Nat) ∧ (1 : Nat) = (1 : Nat) ∧ (1 : Nat) = (1 : Nat) ∧ (1 : Nat) ≤ (1000 : Nat) := by first | omega | assumption | rfl | ((repeat' with_reducible apply And.intro) <;> first | rfl | assumption | omega)) : roundK Try.prog (S3.on [(55, true), (63, true), (80, false), (87, false), (118, false)]) L3i Try.f3.ntmps 1 (loopOf Try.f3 0) live3 (st3 n r N i) (hp3 n N k o N' gs xs l) on out =
     (on [Value.bool false, Value.int IntKind.i64 n, Value.int IntKind.i64 r, Value.slice (some (Addr.mk (0 : Nat) (0 : Nat) none)) N (2 : Nat), Value.int IntKind.i64 (↑N : Int), Value.int IntKind.i64 ((↑i
     : Int) + (1 : Int)), Value.pointer (some (Addr.mk (1 : Nat) (0 : Nat) none)), Value.pointer (some (Addr.mk (3 : Nat) (0 : Nat) none))] [some (Blk.mk false (1 : Nat) [Seg.ints IntKind.i64 N gs]), some
     (Blk.mk true (2 : Nat) [Seg.ints IntKind.i64 (1 : Nat) [n], Seg.vals [Value.slice (some (Addr.mk (2 : Nat) (0 : Nat) none)) (1 : Nat) (1 : Nat)]]), some (Blk.mk true (1 : Nat) [Seg.ints IntKind.i64 (1
     : Nat) [gs.getD i (0 : Int)]]), some (Blk.mk true (2 : Nat) [Seg.ints IntKind.i64 (1 : Nat) [n], Seg.vals [Value.slice (some (Addr.mk (4 : Nat) (0 : Nat) none)) (1 : Nat) (1 : Nat)]]), some (Blk.mk
     true (1 : Nat) [Seg.ints IntKind.i64 (1 : Nat) [gs.getD i (0 : Int)]])]) :=
  Eq.trans (b :=
     bif decide ((↑i : Int) < (↑N : Int)) then bif decide ((0 : Int) ≤ (↑i : Int)) && decide ((↑i : Int) < (↑N : Int)) then bif ((0 : Nat) + (↑i : Int).toNat * (1 : Nat)).blt N then bif chk ((1 : Nat) ≤ k
     ∧ k ≤ (1000 : Nat) ∧ k = k ∧ xs.length = k) then bif (↑i : Int) == r then bif chk (k = k ∧ (1 : Nat) ≤ (2 : Nat)) then bif chk ((1 : Int) ≤ n) then bif chk ((1 : Int) ≤ n) then bif gs.getD ((0 : Nat)
     + (↑i : Int).toNat * (1 : Nat)) (0 : Int) != gs.getD ((0 : Nat) + (↑i : Int).toNat * (1 : Nat)) (0 : Int) then none else bif chk ((1 : Nat) ≤ k ∧ k ≤ (15 : Nat) ∧ k = k ∧ xs.length = k ∧ (1 : Nat) =
     (1 : Nat) ∧ (↑k : Int) ≤ n) then bif chk ((1 : Nat) ≤ (1 : Nat) ∧ (1 : Nat) ≤ (1000 : Nat) ∧ (1 : Nat) = (1 : Nat) ∧ [gs.getD ((0 : Nat) + (↑i : Int).toNat * (1 : Nat)) (0 : Int)].length = (1 : Nat))
     then bif chk ((1 : Nat) ≤ (1 : Nat) ∧ (1 : Nat) ≤ (1000 : Nat) ∧ (1 : Nat) = (1 : Nat) ∧ [gs.getD ((0 : Nat) + (↑i : Int).toNat * (1 : Nat)) (0 : Int)].length = (1 : Nat)) then bif chk ([gs.getD ((0 :
     Nat) + (↑i : Int).toNat * (1 : Nat)) (0 : Int)].length = (1 : Nat) ∧ (1 : Nat) ≤ (1 : Nat) ∧ (1 : Nat) ≤ (1000 : Nat) ∧ (1 : Nat) ≤ (1 : Nat)) then bif mid [gs.getD ((0 : Nat) + (↑i : Int).toNat * (1
     : Nat)) (0 : Int)] != mid (winL [gs.getD ((0 : Nat) + (↑i : Int).toNat * (1 : Nat)) (0 : Int)] (0 : Nat) (1 : Nat)) then none else bif chk ((1 : Nat) = (1 : Nat) ∧ (1 : Nat) = (1 : Nat) ∧ (1 : Nat) ≤
     (1000 : Nat) ∧ (1 : Nat) ≤ (1 : Nat) ∧ [gs.getD ((0 : Nat) + (↑i : Int).toNat * (1 : Nat)) (0 : Int)] = winL [gs.getD ((0 : Nat) + (↑i : Int).toNat * (1 : Nat)) (0 : Int)] (0 : Nat) (1 : Nat)) then
     bif chk ((↑N : Int) = (↑N : Int) ∧ N = N ∧ (0 : Int) ≤ (↑i : Int) ∧ n = n ∧ n = n ∧ (1 : Int) = (1 : Int) ∧ (1 : Nat) = (1 : Nat) ∧ (1 : Nat) = (1 : Nat) ∧ (1 : Nat) = (1 : Nat) ∧ (1 : Nat) = (1 :
     Nat) ∧ (1 : Nat) ≤ (1000 : Nat)) then on [Value.bool false, Value.int IntKind.i64 n, Value.int IntKind.i64 r, Value.slice (some (Addr.mk (0 : Nat) (0 : Nat) none)) N (2 : Nat), Value.int IntKind.i64
     (↑N : Int), Value.int IntKind.i64 (IntKind.i64.wrap ((↑(↑i : Int).toNat : Int) + (1 : Int))), Value.pointer (some (Addr.mk (1 : Nat) (0 : Nat) none)), Value.pointer (some (Addr.mk (3 : Nat) (0 : Nat)
     none))] [some (Blk.mk false (1 : Nat) [Seg.ints IntKind.i64 N gs]), some (Blk.mk true (2 : Nat) [Seg.ints IntKind.i64 (1 : Nat) [n], Seg.vals [Value.slice (some (Addr.mk (2 : Nat) (0 : Nat) none)) (1
     : Nat) (1 : Nat)]]), some (Blk.mk true (1 : Nat) [Seg.ints IntKind.i64 (1 : Nat) [gs.getD ((0 : Nat) + (↑i : Int).toNat * (1 : Nat)) (0 : Int)]]), some (Blk.mk true (2 : Nat) [Seg.ints IntKind.i64 (1
     : Nat) [n], Seg.vals [Value.slice (some (Addr.mk (4 : Nat) (0 : Nat) none)) (1 : Nat) (1 : Nat)]]), some (Blk.mk true (1 : Nat) [Seg.ints IntKind.i64 (1 : Nat) [gs.getD ((0 : Nat) + (↑i : Int).toNat *
     (1 : Nat)) (0 : Int)]])] else none else none else none else none else none else none else none else none else none else none else none else none else none else none) (by kernel_rfl) (by simp only [-eq_self, Int.toNat_natCast, Nat.mul_one, Nat.zero_add, swrap w1.1 w1.2]; exact (go_t (dec_t h1) (go_t (and_t (dec_t h2) (dec_t h1)) (go_t (blt_t h3) (go_t (chk_t h4) (go_t (eqb_t h5) (go_t (chk_t h6) (go_t (chk_t h7) (go_t (chk_t h7) (go_f (bne_f h8) (go_t (chk_t h9) (go_t (chk_t h10) (go_t (chk_t h10) (go_t (chk_t h11) (go_f (bne_f h12) (go_t (chk_t h13) (go_t (chk_t h14) rfl)))))))))))))))))
--CFEND
--CP p3x (n r : Int) (N k o N' : Nat) (gs xs l : List Int) (on : List Value → Heap → Out) (out : Exit → List Value → Heap → Out) :: roundK Try.prog (S3.on [(55, false)]) L3i Try.f3.ntmps 1 (loopOf Try.f3 0) live3 (st3 n r N N) (hp3 n N k o N' gs xs l) on out
theorem p3x (n r : Int) (N k o N' : Nat) (gs xs l : List Int) (on : List Value → Heap → Out) (out : Exit → List Value → Heap → Out)
    (h1 : ¬(↑N : Int) < (↑N : Int) := by first | omega | assumption | rfl) : roundK Try.prog (S3.on [(55, false)]) L3i Try.f3.ntmps 1 (loopOf Try.f3 0) live3 (st3 n r N N) (hp3 n N k o N' gs xs l) on out =
     (out (Exit.exit (0 : Nat)) [Value.bool false, Value.int IntKind.i64 n, Value.int IntKind.i64 r, Value.slice (some (Addr.mk (0 : Nat) (0 : Nat) none)) N (2 : Nat), Value.int IntKind.i64 (↑N : Int),
     Value.int IntKind.i64 (↑N : Int), Value.pointer (some (Addr.mk (1 : Nat) (0 : Nat) none)), Value.pointer (some (Addr.mk (3 : Nat) (0 : Nat) none))] [some (Blk.mk false (1 : Nat) [Seg.ints IntKind.i64
     N gs]), some (Blk.mk true (2 : Nat) [Seg.ints IntKind.i64 (1 : Nat) [n], Seg.vals [Value.slice (some (Addr.mk (2 : Nat) (0 : Nat) none)) k (1 : Nat)]]), some (Blk.mk true (1 : Nat) [Seg.ints
     IntKind.i64 k xs]), some (Blk.mk true (2 : Nat) [Seg.ints IntKind.i64 (1 : Nat) [n], Seg.vals [Value.slice (some (Addr.mk (4 : Nat) o none)) k (1 : Nat)]]), some (Blk.mk true (1 : Nat) [Seg.ints
     IntKind.i64 N' l])]) :=
  Eq.trans (by kernel_rfl) (go_f (dec_f h1) rfl)
--CFEND
--CP p3xN (n r : Int) (N : Nat) (gs : List Int) (on : List Value → Heap → Out) (out : Exit → List Value → Heap → Out) :: roundK Try.prog (S3.on [(55, false)]) L3i Try.f3.ntmps 1 (loopOf Try.f3 0) live3 (st3N n r N N) (hp3N n N gs) on out
theorem p3xN (n r : Int) (N : Nat) (gs : List Int) (on : List Value → Heap → Out) (out : Exit → List Value → Heap → Out)
    (h1 : ¬(↑N : Int) < (↑N : Int) := by first | omega | assumption | rfl) : roundK Try.prog (S3.on [(55, false)]) L3i Try.f3.ntmps 1 (loopOf Try.f3 0) live3 (st3N n r N N) (hp3N n N gs) on out =
     (out (Exit.exit (0 : Nat)) [Value.bool false, Value.int IntKind.i64 n, Value.int IntKind.i64 r, Value.slice (some (Addr.mk (0 : Nat) (0 : Nat) none)) N (2 : Nat), Value.int IntKind.i64 (↑N : Int),
     Value.int IntKind.i64 (↑N : Int), Value.pointer (some (Addr.mk (1 : Nat) (0 : Nat) none)), Value.pointer (some (Addr.mk (2 : Nat) (0 : Nat) none))] [some (Blk.mk false (1 : Nat) [Seg.ints IntKind.i64
     N gs]), some (Blk.mk true (2 : Nat) [Seg.ints IntKind.i64 (1 : Nat) [n], Seg.vals [Value.slice none (0 : Nat) (0 : Nat)]]), some (Blk.mk true (2 : Nat) [Seg.ints IntKind.i64 (1 : Nat) [n], Seg.vals
     [Value.slice none (0 : Nat) (0 : Nat)]])]) :=
  Eq.trans (by kernel_rfl) (go_f (dec_f h1) rfl)
--CFEND
end Go.Proofs.Ythdeanljgdjbhaa.VC
