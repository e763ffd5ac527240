/- The document's window: another number. -/
import Derived.Test.YthdeanljgdjbhaaMX8
namespace Go.Proofs.Ythdeanljgdjbhaa.VC
open Go Go.Proofs

noncomputable def FMidR : FSpec := fun args h k => match args, h with
  | [.slice (some ⟨0, o, none⟩) m _], [some ⟨false, 1, [.ints .i64 N l]⟩] =>
    bif chk (l.length = N ∧ o + m ≤ N ∧ m ≤ 1000 ∧ 1 ≤ m) then k (w63 (mid (winL l o m))) [rB false N l] else none
  | _, _ => none
theorem okMidR : EntryOK Try.prog 16 FMidR := by
  refine EntryOK.of_paths (fn := Try.f16) follows_ok Try.func16 (by kernel_rfl) (by kernel_rfl) ?_
  intro args h k out hF
  unfold FMidR at hF
  split at hF
  · obtain ⟨hb, hF2⟩ := bif_t hF
    obtain ⟨h1, h2, h3, h4⟩ := chk_iff.1 hb
    rename_i o m c N l
    have e2 : ((m : Int) - 1).tdiv 2 = (((m - 1) / 2 : Nat) : Int) := by rw [show ((m : Int) - 1) = ((m - 1 : Nat) : Int) by omega, Int.tdiv_eq_ediv_of_nonneg (by omega)]; omega
    exact ⟨_, _, hF2, fun _ => ⟨mkS [], L16, mk0, loops16, p16 o m c N l (by omega) (by rw [e2]; omega) ⟨h1, h2, h3, h4, e2⟩⟩⟩
  · cases hF
noncomputable def S15 : Spec := mkS [(16, false, FMidR)]
--CP cRAdN (n x : Int) :: fnK Try.prog (S15.on [(26, false)]) noL Try.f15 [pt 0, w63 x] [mB true n (.slice none 0 0)]
theorem cRAdN (n x : Int)
    (h1 : ¬(1 : Int) > n := by first | omega | assumption | rfl)
    (h2 : [x].length = (1 : Nat) ∧ (1 : Nat) ≤ (1 : Nat) ∧ (1 : Nat) ≤ (1000 : Nat) ∧ (1 : Nat) ≤ (1 : Nat) := by first | omega | assumption | rfl | ((repeat' with_reducible apply And.intro) <;> first | rfl | assumption | omega)) : fnK Try.prog (S15.on [(26, false)]) noL Try.f15 [pt 0, w63 x] [mB true n (.slice none 0 0)] =
     (some (Res.ret (Value.int IntKind.i64 (mid (winL [x] (0 : Nat) (1 : Nat)))) [some (Blk.mk true (2 : Nat) [Seg.ints IntKind.i64 (1 : Nat) [n], Seg.vals [Value.slice (some (Addr.mk (1 : Nat) (0 : Nat)
     none)) (1 : Nat) (1 : Nat)]]), some (Blk.mk true (1 : Nat) [Seg.ints IntKind.i64 (1 : Nat) [x]])])) :=
  Eq.trans (b :=
     bif decide ((1 : Int) > n) then none else bif chk ([x].length = (1 : Nat) ∧ (1 : Nat) ≤ (1 : Nat) ∧ (1 : Nat) ≤ (1000 : Nat) ∧ (1 : Nat) ≤ (1 : Nat)) then some (Res.ret (Value.int IntKind.i64 (mid
     (winL [x] (0 : Nat) (1 : Nat)))) [some (Blk.mk true (2 : Nat) [Seg.ints IntKind.i64 (1 : Nat) [n], Seg.vals [Value.slice (some (Addr.mk (1 : Nat) (0 : Nat) none)) (1 : Nat) (1 : Nat)]]), some (Blk.mk
     true (1 : Nat) [Seg.ints IntKind.i64 (1 : Nat) [x]])]) else none) (by kernel_rfl) (by exact (go_f (dec_f h1) (go_t (chk_t h2) rfl)))
--CFEND
--CP cRAdS (n x : Int) (o k c N : Nat) (l : List Int) :: fnK Try.prog (S15.on [(26, false)]) noL Try.f15 [pt 0, w63 x] [mB true n (slW 1 o k c), rB true N l]
theorem cRAdS (n x : Int) (o k c N : Nat) (l : List Int)
    (h1 : o ≤ N := by first | omega | assumption | rfl)
    (h2 : k ≤ N - o := by first | omega | assumption | rfl)
    (h3 : k * (8 : Nat) ≤ (140737488355328 : Nat) := by first | omega | assumption | rfl)
    (h4 : k ≤ (4611686018427387904 : Nat) := by first | omega | assumption | rfl)
    (h5 : k ≤ k := by first | omega | assumption | rfl)
    (h6 : (k + (1 : Nat)) * (8 : Nat) ≤ (140737488355328 : Nat) := by first | omega | assumption | rfl)
    (h7 : k + (1 : Nat) ≤ (4611686018427387904 : Nat) := by first | omega | assumption | rfl)
    (h8 : k = k := by first | omega | assumption | rfl)
    (h9 : ¬(↑(k + (1 : Nat)) : Int) > n := by first | omega | assumption | rfl)
    (h10 : (List.take k (List.take k (List.drop o l)) ++ [x]).length = k + (1 : Nat) ∧ k + (1 : Nat) ≤ k + (1 : Nat) ∧ k + (1 : Nat) ≤ (1000 : Nat) ∧ (1 : Nat) ≤ k + (1 : Nat) := by first | omega | assumption | rfl | ((repeat' with_reducible apply And.intro) <;> first | rfl | assumption | omega)) : fnK Try.prog (S15.on [(26, false)]) noL Try.f15 [pt 0, w63 x] [mB true n (slW 1 o k c), rB true N l] =
     (some (Res.ret (Value.int IntKind.i64 (mid (winL (List.take k (List.take k (List.drop o l)) ++ [x]) (0 : Nat) (k + (1 : Nat))))) [some (Blk.mk true (2 : Nat) [Seg.ints IntKind.i64 (1 : Nat) [n],
     Seg.vals [Value.slice (some (Addr.mk (2 : Nat) (0 : Nat) none)) (k + (1 : Nat)) (1 : Nat)]]), some (Blk.mk true (1 : Nat) [Seg.ints IntKind.i64 N l]), some (Blk.mk true (1 : Nat) [Seg.ints IntKind.i64
     (k + (1 : Nat)) (List.take k (List.take k (List.drop o l)) ++ [x])])])) :=
  Eq.trans (b :=
     bif o.ble N then bif (k * (1 : Nat)).ble (N - o) then bif decide (((0 : Nat) + k) * (8 : Nat) ≤ (140737488355328 : Nat)) && ((0 : Nat) + k).ble (OfNat.ofNat (4611686018427387904 : Nat)) then bif (((0
     : Nat) + k) * (1 : Nat)).ble (k * (1 : Nat)) then bif decide (((0 : Nat) + k + (1 : Nat)) * (8 : Nat) ≤ (140737488355328 : Nat)) && ((0 : Nat) + k + (1 : Nat)).ble (OfNat.ofNat (4611686018427387904 :
     Nat)) then bif ((0 : Nat) + ((0 : Nat) + k) * (1 : Nat)).beq (segsLen [Seg.ints IntKind.i64 (k * (1 : Nat)) (List.take (k * (1 : Nat)) (List.drop o l))]) && true then bif decide ((↑((0 : Nat) + k + (1
     : Nat)) : Int) > n) then none else bif chk ((List.take (((0 : Nat) + k) * (1 : Nat)) (List.take (k * (1 : Nat)) (List.drop o l)) ++ [x]).length = ((0 : Nat) + k) * (1 : Nat) + (1 : Nat) ∧ (0 : Nat) +
     ((0 : Nat) + k + (1 : Nat)) ≤ ((0 : Nat) + k) * (1 : Nat) + (1 : Nat) ∧ (0 : Nat) + k + (1 : Nat) ≤ (1000 : Nat) ∧ (1 : Nat) ≤ (0 : Nat) + k + (1 : Nat)) then some (Res.ret (Value.int IntKind.i64 (mid
     (winL (List.take (((0 : Nat) + k) * (1 : Nat)) (List.take (k * (1 : Nat)) (List.drop o l)) ++ [x]) (0 : Nat) ((0 : Nat) + k + (1 : Nat))))) [some (Blk.mk true (2 : Nat) [Seg.ints IntKind.i64 (1 : Nat)
     [n], Seg.vals [Value.slice (some (Addr.mk (2 : Nat) (0 : Nat) none)) ((0 : Nat) + k + (1 : Nat)) (1 : Nat)]]), some (Blk.mk true (1 : Nat) [Seg.ints IntKind.i64 N l]), some (Blk.mk true (1 : Nat)
     [Seg.ints IntKind.i64 (((0 : Nat) + k) * (1 : Nat) + (1 : Nat)) (List.take (((0 : Nat) + k) * (1 : Nat)) (List.take (k * (1 : Nat)) (List.drop o l)) ++ [x])])]) else none else none else none else none
     else none else none else none) (by kernel_rfl) (by simp only [-eq_self, Nat.mul_one, Nat.zero_add, segsLen_one]; exact (go_t (ble_t h1) (go_t (ble_t h2) (go_t (and_t (dec_t h3) (ble_t h4)) (go_t (ble_t h5) (go_t (and_t (dec_t h6) (ble_t h7)) (go_t (and_t (beq_t h8) rfl) (go_f (dec_f h9) (go_t (chk_t h10) rfl)))))))))
--CFEND
--CP cRAdF (n x : Int) (o k c N : Nat) (l : List Int) :: fnK Try.prog (S15.on [(26, true)]) noL Try.f15 [pt 0, w63 x] [mB true n (slW 1 o k c), rB true N l]
theorem cRAdF (n x : Int) (o k c N : Nat) (l : List Int)
    (h1 : o ≤ N := by first | omega | assumption | rfl)
    (h2 : k ≤ N - o := by first | omega | assumption | rfl)
    (h3 : k * (8 : Nat) ≤ (140737488355328 : Nat) := by first | omega | assumption | rfl)
    (h4 : k ≤ (4611686018427387904 : Nat) := by first | omega | assumption | rfl)
    (h5 : k ≤ k := by first | omega | assumption | rfl)
    (h6 : (k + (1 : Nat)) * (8 : Nat) ≤ (140737488355328 : Nat) := by first | omega | assumption | rfl)
    (h7 : k + (1 : Nat) ≤ (4611686018427387904 : Nat) := by first | omega | assumption | rfl)
    (h8 : k = k := by first | omega | assumption | rfl)
    (h9 : (↑(k + (1 : Nat)) : Int) > n := by first | omega | assumption | rfl)
    (h10 : (1 : Int) ≤ (↑(k + (1 : Nat)) : Int) := by first | omega | assumption | rfl)
    (h11 : (↑(k + (1 : Nat)) : Int) ≤ (↑(k + (1 : Nat)) : Int) := by first | omega | assumption | rfl)
    (h12 : (List.take k (List.take k (List.drop o l)) ++ [x]).length = k + (1 : Nat) ∧ (1 : Nat) + ((↑(k + (1 : Nat)) : Int) - (1 : Int)).toNat ≤ k + (1 : Nat) ∧ ((↑(k + (1 : Nat)) : Int) - (1 : Int)).toNat ≤ (1000 : Nat) ∧ (1 : Nat) ≤ ((↑(k + (1 : Nat)) : Int) - (1 : Int)).toNat := by first | omega | assumption | rfl | ((repeat' with_reducible apply And.intro) <;> first | rfl | assumption | omega)) : fnK Try.prog (S15.on [(26, true)]) noL Try.f15 [pt 0, w63 x] [mB true n (slW 1 o k c), rB true N l] =
     (some (Res.ret (Value.int IntKind.i64 (mid (winL (List.take k (List.take k (List.drop o l)) ++ [x]) (1 : Nat) ((↑(k + (1 : Nat)) : Int) - (1 : Int)).toNat))) [some (Blk.mk true (2 : Nat) [Seg.ints
     IntKind.i64 (1 : Nat) [n], Seg.vals [Value.slice (some (Addr.mk (2 : Nat) (1 : Nat) none)) ((↑(k + (1 : Nat)) : Int) - (1 : Int)).toNat (1 : Nat)]]), some (Blk.mk true (1 : Nat) [Seg.ints IntKind.i64
     N l]), some (Blk.mk true (1 : Nat) [Seg.ints IntKind.i64 (k + (1 : Nat)) (List.take k (List.take k (List.drop o l)) ++ [x])])])) :=
  Eq.trans (b :=
     bif o.ble N then bif (k * (1 : Nat)).ble (N - o) then bif decide (((0 : Nat) + k) * (8 : Nat) ≤ (140737488355328 : Nat)) && ((0 : Nat) + k).ble (OfNat.ofNat (4611686018427387904 : Nat)) then bif (((0
     : Nat) + k) * (1 : Nat)).ble (k * (1 : Nat)) then bif decide (((0 : Nat) + k + (1 : Nat)) * (8 : Nat) ≤ (140737488355328 : Nat)) && ((0 : Nat) + k + (1 : Nat)).ble (OfNat.ofNat (4611686018427387904 :
     Nat)) then bif ((0 : Nat) + ((0 : Nat) + k) * (1 : Nat)).beq (segsLen [Seg.ints IntKind.i64 (k * (1 : Nat)) (List.take (k * (1 : Nat)) (List.drop o l))]) && true then bif decide ((↑((0 : Nat) + k + (1
     : Nat)) : Int) > n) then bif decide ((1 : Int) ≤ (↑((0 : Nat) + k + (1 : Nat)) : Int)) && decide ((↑((0 : Nat) + k + (1 : Nat)) : Int) ≤ (↑((0 : Nat) + k + (1 : Nat)) : Int)) then bif chk ((List.take
     (((0 : Nat) + k) * (1 : Nat)) (List.take (k * (1 : Nat)) (List.drop o l)) ++ [x]).length = ((0 : Nat) + k) * (1 : Nat) + (1 : Nat) ∧ (1 : Nat) + ((↑((0 : Nat) + k + (1 : Nat)) : Int) - (1 :
     Int)).toNat ≤ ((0 : Nat) + k) * (1 : Nat) + (1 : Nat) ∧ ((↑((0 : Nat) + k + (1 : Nat)) : Int) - (1 : Int)).toNat ≤ (1000 : Nat) ∧ (1 : Nat) ≤ ((↑((0 : Nat) + k + (1 : Nat)) : Int) - (1 : Int)).toNat)
     then some (Res.ret (Value.int IntKind.i64 (mid (winL (List.take (((0 : Nat) + k) * (1 : Nat)) (List.take (k * (1 : Nat)) (List.drop o l)) ++ [x]) (1 : Nat) ((↑((0 : Nat) + k + (1 : Nat)) : Int) - (1 :
     Int)).toNat))) [some (Blk.mk true (2 : Nat) [Seg.ints IntKind.i64 (1 : Nat) [n], Seg.vals [Value.slice (some (Addr.mk (2 : Nat) (1 : Nat) none)) ((↑((0 : Nat) + k + (1 : Nat)) : Int) - (1 :
     Int)).toNat (1 : Nat)]]), some (Blk.mk true (1 : Nat) [Seg.ints IntKind.i64 N l]), some (Blk.mk true (1 : Nat) [Seg.ints IntKind.i64 (((0 : Nat) + k) * (1 : Nat) + (1 : Nat)) (List.take (((0 : Nat) +
     k) * (1 : Nat)) (List.take (k * (1 : Nat)) (List.drop o l)) ++ [x])])]) else none else none else none else none else none else none else none else none else none) (by kernel_rfl) (by simp only [-eq_self, Nat.mul_one, Nat.zero_add, segsLen_one]; exact (go_t (ble_t h1) (go_t (ble_t h2) (go_t (and_t (dec_t h3) (ble_t h4)) (go_t (ble_t h5) (go_t (and_t (dec_t h6) (ble_t h7)) (go_t (and_t (beq_t h8) rfl) (go_t (dec_t h9) (go_t (and_t (dec_t h10) (dec_t h11)) (go_t (chk_t h12) rfl))))))))))
--CFEND
theorem S15_ok : SpecOK Try.prog S15 := mkS_cons okMidR (mkS_nil _)
/-- Where what is held begins in the document's new list. -/
def offW (n : Int) (k : Nat) : Nat := bif decide ((k : Int) < n) then 0 else 1
theorem pushW_win (n : Int) (xs : List Int) (x : Int) (h : 1 ≤ xs.length) : winL (xs ++ [x]) (offW n xs.length) (pushW n xs x).length = pushW n xs x := by
  unfold offW pushW
  cases hd : decide ((xs.length : Int) < n) with
  | true => simp only [cond_true, winL, List.drop_zero]; exact List.take_of_length_le (Nat.le_refl _)
  | false => simp only [cond_false, winL]; rw [List.drop_append_of_le_length h, List.take_of_length_le (Nat.le_refl _)]
noncomputable def FRAdN : FSpec := fun args h k => match args, h with
  | [.pointer (some ⟨0, 0, none⟩), .int .i64 x], [some ⟨true, 2, [.ints .i64 1 [n], .vals [.slice none 0 0]]⟩] =>
    bif chk (1 ≤ n) then k (w63 x) [mB true n (sl 1 1 1), rB true 1 [x]] else none
  | _, _ => none
noncomputable def FRAd : FSpec := fun args h k => match args, h with
  | [.pointer (some ⟨0, 0, none⟩), .int .i64 x], [some ⟨true, 2, [.ints .i64 1 [n], .vals [.slice (some ⟨1, o, none⟩) m _]]⟩, some ⟨true, 1, [.ints .i64 N l]⟩] =>
    bif chk (l.length = N ∧ o + m ≤ N ∧ 1 ≤ m ∧ m ≤ 15 ∧ (m : Int) ≤ n) then
      k (w63 (mid (pushW n (winL l o m) x))) [mB true n (slW 2 (offW n m) (pushW n (winL l o m) x).length 1), rB true N l, rB true (m + 1) (winL l o m ++ [x])] else none
  | _, _ => none
theorem okRAdN : EntryOK Try.prog 15 FRAdN := by
  refine EntryOK.of_paths (fn := Try.f15) follows_ok Try.func15 (by kernel_rfl) (by kernel_rfl) ?_
  intro args h k out hF
  unfold FRAdN at hF
  split at hF
  · obtain ⟨hb, hF2⟩ := bif_t hF
    have h1 := chk_iff.1 hb
    rename_i x n
    refine ⟨_, _, hF2, fun _ => ⟨S15.on [(26, false)], noL, S15_ok, noL_ok, ?_⟩⟩
    have := cRAdN n x (by omega) ⟨rfl, by omega, by omega, by omega⟩
    rw [show winL [x] 0 1 = [x] from rfl, mid_one] at this
    exact this
  · cases hF
theorem okRAd : EntryOK Try.prog 15 FRAd := by
  refine EntryOK.of_paths (fn := Try.f15) follows_ok Try.func15 (by kernel_rfl) (by kernel_rfl) ?_
  intro args h k out hF
  unfold FRAd at hF
  split at hF
  · obtain ⟨hb, hF2⟩ := bif_t hF
    obtain ⟨h1, h2, h3, h4, h5⟩ := chk_iff.1 hb
    rename_i x n o m c N l
    have e0 : List.take m (List.take m (List.drop o l)) = winL l o m := by rw [List.take_take, Nat.min_self]; rfl
    have hw := winL_len (l := l) (o := o) (k := m) (by omega)
    have hp := pushW_win n (winL l o m) x (by omega)
    rw [hw] at hp
    have e3 : (winL l o m ++ [x]).length = m + 1 := by simp [hw]
    by_cases hlt : (m : Int) < n
    · have e2 : pushW n (winL l o m) x = winL l o m ++ [x] := by rw [pushW, hw, decide_eq_true hlt]; rfl
      have e4 : offW n m = 0 := by rw [offW, decide_eq_true hlt]; rfl
      refine ⟨_, _, hF2, fun _ => ⟨S15.on [(26, false)], noL, S15_ok, noL_ok, ?_⟩⟩
      have := cRAdS n x o m c N l (by omega) (by omega) (by omega) (by omega) (by omega) (by omega) (by omega) rfl (by omega) ⟨by rw [e0, e3], by omega, by omega, by omega⟩
      rw [e0] at this
      rw [e4, e2, e3] at hp
      rw [hp] at this
      rw [e4, e2, e3]
      exact this
    · have e2 : pushW n (winL l o m) x = (winL l o m).drop 1 ++ [x] := by rw [pushW, hw, decide_eq_false hlt]; rfl
      have e4 : offW n m = 1 := by rw [offW, decide_eq_false hlt]; rfl
      have e5 : ((winL l o m).drop 1 ++ [x]).length = m := by simp [hw]; omega
      have e6 : (((m + 1 : Nat) : Int) - 1).toNat = m := by omega
      refine ⟨_, _, hF2, fun _ => ⟨S15.on [(26, true)], noL, S15_ok, noL_ok, ?_⟩⟩
      have := cRAdF n x o m c N l (by omega) (by omega) (by omega) (by omega) (by omega) (by omega) (by omega) rfl (by omega) (by omega) (by omega) ⟨by rw [e0, e3], by omega, by omega, by omega⟩
      rw [e0, e6] at this
      rw [e4, e2, e5] at hp
      rw [hp] at this
      rw [e4, e2, e5]
      exact this
  · cases hF
/-- The same numbers. -/
def live17 : List Nat := [4, 0, 1, 5]
abbrev st17 (k o m c i : Nat) : List Value := [.bool false, sl 0 k 1, slW 1 o m c, w63 i]
--CP p17 (k o c i N : Nat) (xs l : List Int) (on : List Value → Heap → Out) (out : Exit → List Value → Heap → Out) :: roundK Try.prog ((mkS []).on [(14, true), (25, false)]) noL Try.f17.ntmps 2 (loopOf Try.f17 0) live17 (st17 k o k c i) [rB false k xs, rB false N l] on out
theorem p17 (k o c i N : Nat) (xs l : List Int) (on : List Value → Heap → Out) (out : Exit → List Value → Heap → Out)
    (w1 : -9223372036854775808 ≤ (↑i : Int) + (1 : Int) ∧ (↑i : Int) + (1 : Int) ≤ 9223372036854775807 := by omega)
    (h1 : (↑i : Int) < (↑k : Int) := by first | omega | assumption | rfl)
    (h2 : (0 : Int) ≤ (↑i : Int) := by first | omega | assumption | rfl)
    (h3 : i < k := by first | omega | assumption | rfl)
    (h4 : o + i < N := by first | omega | assumption | rfl)
    (h5 : xs.getD i (0 : Int) = l.getD (o + i) (0 : Int) := by first | omega | assumption | rfl) : roundK Try.prog ((mkS []).on [(14, true), (25, false)]) noL Try.f17.ntmps 2 (loopOf Try.f17 0) live17 (st17 k o k c i) [rB false k xs, rB false N l] on out =
     (on [Value.bool false, Value.slice (some (Addr.mk (0 : Nat) (0 : Nat) none)) k (1 : Nat), Value.slice (some (Addr.mk (1 : Nat) o none)) k c, Value.int IntKind.i64 ((↑i : Int) + (1 : Int))] [some
     (Blk.mk false (1 : Nat) [Seg.ints IntKind.i64 k xs]), some (Blk.mk false (1 : Nat) [Seg.ints IntKind.i64 N l])]) :=
  Eq.trans (b :=
     bif decide ((↑i : Int) < (↑k : Int)) then bif decide ((0 : Int) ≤ (↑i : Int)) && decide ((↑i : Int) < (↑k : Int)) then bif ((0 : Nat) + (↑i : Int).toNat * (1 : Nat)).blt k then bif decide ((0 : Int) ≤
     (↑i : Int)) && decide ((↑i : Int) < (↑k : Int)) then bif (o + (↑i : Int).toNat * (1 : Nat)).blt N then bif xs.getD ((0 : Nat) + (↑i : Int).toNat * (1 : Nat)) (0 : Int) != l.getD (o + (↑i : Int).toNat
     * (1 : Nat)) (0 : Int) then none else on [Value.bool false, Value.slice (some (Addr.mk (0 : Nat) (0 : Nat) none)) k (1 : Nat), Value.slice (some (Addr.mk (1 : Nat) o none)) k c, Value.int IntKind.i64
     (IntKind.i64.wrap ((↑i : Int) + (1 : Int)))] [some (Blk.mk false (1 : Nat) [Seg.ints IntKind.i64 k xs]), some (Blk.mk false (1 : Nat) [Seg.ints IntKind.i64 N l])] else none else none else none else
     none else none) (by kernel_rfl) (by simp only [-eq_self, Int.toNat_natCast, Nat.mul_one, Nat.zero_add, swrap w1.1 w1.2]; exact (go_t (dec_t h1) (go_t (and_t (dec_t h2) (dec_t h1)) (go_t (blt_t h3) (go_t (and_t (dec_t h2) (dec_t h1)) (go_t (blt_t h4) (go_f (bne_f h5) rfl)))))))
--CFEND
--CP p17x (k o c N : Nat) (xs l : List Int) (on : List Value → Heap → Out) (out : Exit → List Value → Heap → Out) :: roundK Try.prog ((mkS []).on [(14, false)]) noL Try.f17.ntmps 2 (loopOf Try.f17 0) live17 (st17 k o k c k) [rB false k xs, rB false N l] on out
theorem p17x (k o c N : Nat) (xs l : List Int) (on : List Value → Heap → Out) (out : Exit → List Value → Heap → Out)
    (h1 : ¬(↑k : Int) < (↑k : Int) := by first | omega | assumption | rfl) : roundK Try.prog ((mkS []).on [(14, false)]) noL Try.f17.ntmps 2 (loopOf Try.f17 0) live17 (st17 k o k c k) [rB false k xs, rB false N l] on out =
     (out (Exit.exit (0 : Nat)) [Value.bool false, Value.slice (some (Addr.mk (0 : Nat) (0 : Nat) none)) k (1 : Nat), Value.slice (some (Addr.mk (1 : Nat) o none)) k c, Value.int IntKind.i64 (↑k : Int)]
     [some (Blk.mk false (1 : Nat) [Seg.ints IntKind.i64 k xs]), some (Blk.mk false (1 : Nat) [Seg.ints IntKind.i64 N l])]) :=
  Eq.trans (by kernel_rfl) (go_f (dec_f h1) rfl)
--CFEND
theorem loop17 (k o c N : Nat) (xs l : List Int) (hk : k ≤ 1000) (ho : o + k ≤ N) (hx : xs = winL l o k) : ∀ (m i : Nat), i + m = k →
    LoopT Try.prog Try.f17.ntmps 2 (loopOf Try.f17 0) (zipS live17 (st17 k o k c i)) [rB false k xs, rB false N l] (.exit 0) (zipS live17 (st17 k o k c k)) [rB false k xs, rB false N l]
  | 0, i, hi => by
    obtain rfl : i = k := hi
    exact LoopT.last (by simp) (CodeT.out (S := (mkS []).on [(14, false)]) mk0 noL_ok (fun on out => p17x i o c N xs l on out))
  | m + 1, i, hi => by
    have e : xs.getD i 0 = l.getD (o + i) 0 := by rw [hx]; exact winL_get (by omega)
    exact LoopT.step (CodeT.on (S := (mkS []).on [(14, true), (25, false)]) mk0 noL_ok (fun on out => p17 k o c i N xs l on out (by omega) (by omega) (by omega) (by omega) (by omega) e)) (loop17 k o c N xs l hk ho hx m (i + 1) (by omega))
noncomputable def L17f : LF := fun vs h k => match vs, h with
  | [.bool false, .slice (some ⟨0, 0, none⟩) m 1, .slice (some ⟨1, o, none⟩) m2 c, .int .i64 0], [some ⟨false, 1, [.ints .i64 m3 xs]⟩, some ⟨false, 1, [.ints .i64 N l]⟩] =>
    bif chk (m2 = m ∧ m3 = m ∧ m ≤ 1000 ∧ o + m ≤ N ∧ xs = winL l o m) then k (.exit 0) (st17 m o m c m) [rB false m xs, rB false N l] else none
  | _, _ => none
noncomputable def L17 : LSpec := oneL 4 live17 L17f
theorem loopOK17 : LoopOK Try.prog Try.f17.ntmps 2 (loopOf Try.f17 0) live17 L17f := by
  refine LoopOK.of_T ?_
  intro vs h k out hk
  unfold L17f at hk
  split at hk
  · obtain ⟨hb, hk2⟩ := bif_t hk
    obtain ⟨rfl, rfl, h3, h4, h5⟩ := chk_iff.1 hb
    exact ⟨_, _, _, hk2, fun _ => loop17 _ _ _ _ _ _ h3 h4 h5 _ 0 (Nat.zero_add _)⟩
  · cases hk
theorem loops17 : LoopsOK Try.prog L17 Try.f17.ntmps 2 (bodyOf Try.f17) := loops_one rfl (by kernel_rfl) loopOK17
--CP p17f (k o c N : Nat) (xs l : List Int) :: fnK Try.prog ((mkS []).on [(10, false)]) L17 Try.f17 [sl 0 k 1, slW 1 o k c] [rB false k xs, rB false N l]
theorem p17f (k o c N : Nat) (xs l : List Int)
    (h1 : (↑k : Int) = (↑k : Int) := by first | omega | assumption | rfl)
    (h2 : k = k ∧ k = k ∧ k ≤ (1000 : Nat) ∧ o + k ≤ N ∧ xs = winL l o k := by first | omega | assumption | rfl | ((repeat' with_reducible apply And.intro) <;> first | rfl | assumption | omega)) : fnK Try.prog ((mkS []).on [(10, false)]) L17 Try.f17 [sl 0 k 1, slW 1 o k c] [rB false k xs, rB false N l] =
     (some (Res.ret (Value.bool true) [some (Blk.mk false (1 : Nat) [Seg.ints IntKind.i64 k xs]), some (Blk.mk false (1 : Nat) [Seg.ints IntKind.i64 N l])])) :=
  Eq.trans (by kernel_rfl) (go_f (bne_f h1) (go_t (chk_t h2) rfl))
--CFEND
noncomputable def FSam : FSpec := fun args h k => match args, h with
  | [.slice (some ⟨0, 0, none⟩) m 1, .slice (some ⟨1, o, none⟩) m2 _], [some ⟨false, 1, [.ints .i64 m3 xs]⟩, some ⟨false, 1, [.ints .i64 N l]⟩] =>
    bif chk (m2 = m ∧ m3 = m ∧ m ≤ 1000 ∧ o + m ≤ N ∧ xs = winL l o m) then k (.bool true) [rB false m xs, rB false N l] else none
  | _, _ => none
theorem okSam : EntryOK Try.prog 17 FSam := by
  refine EntryOK.of_paths (fn := Try.f17) follows_ok Try.func17 (by kernel_rfl) (by kernel_rfl) ?_
  intro args h k out hF
  unfold FSam at hF
  split at hF
  · obtain ⟨hb, hF2⟩ := bif_t hF
    obtain ⟨rfl, rfl, h3, h4, h5⟩ := chk_iff.1 hb
    refine ⟨_, _, hF2, fun _ => ⟨(mkS []).on [(10, false)], L17, mk0, loops17, p17f _ _ _ _ _ _ ?_ ?_⟩⟩
    · omega
    · exact ⟨rfl, rfl, h3, h4, h5⟩
  · cases hF
end Go.Proofs.Ythdeanljgdjbhaa.VC
