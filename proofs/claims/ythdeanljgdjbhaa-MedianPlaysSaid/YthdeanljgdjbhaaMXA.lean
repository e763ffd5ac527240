/- The window of numbers: what is copied, let go. -/
import Derived.Test.YthdeanljgdjbhaaMX9
namespace Go.Proofs.Ythdeanljgdjbhaa.VC
open Go Go.Proofs

noncomputable def FCpyN : FSpec := fun args h k => match args, h with
  | [.pointer (some ⟨0, 0, none⟩)], [some ⟨false, 2, [.ints .i64 1 [n], .vals [.slice none 0 0]]⟩] => k (pt 1) [mB false n (.slice none 0 0), mB true n (.slice none 0 0)]
  | _, _ => none
theorem okCpyN : EntryOK Try.prog 10 FCpyN := by
  refine EntryOK.of_paths (fn := Try.f10) follows_ok Try.func10 (by kernel_rfl) (by kernel_rfl) ?_
  intro args h k out hF
  unfold FCpyN at hF
  split at hF
  · exact ⟨_, _, hF, fun _ => ⟨mkS [(13, false, FAllN)], noL, mkS_cons okAllN (mkS_nil _), noL_ok, cCpyN _⟩⟩
  · cases hF
noncomputable def FCpy : FSpec := fun args h k => match args, h with
  | [.pointer (some ⟨0, 0, none⟩)], [some ⟨false, 2, [.ints .i64 1 [n], .vals [.slice (some ⟨1, 0, none⟩) m c]]⟩, some ⟨false, 1, [.ints .i64 m2 xs]⟩] =>
    bif chk (1 ≤ m ∧ m ≤ 1000 ∧ m2 = m ∧ xs.length = m) then k (pt 2) [mB false n (sl 1 m c), rB false m xs, mB true n (sl 3 m 1), rB true m xs] else none
  | _, _ => none
theorem okCpy : EntryOK Try.prog 10 FCpy := by
  refine EntryOK.of_paths (fn := Try.f10) follows_ok Try.func10 (by kernel_rfl) (by kernel_rfl) ?_
  intro args h k out hF
  unfold FCpy at hF
  split at hF
  · obtain ⟨hb, hF2⟩ := bif_t hF
    obtain ⟨h1, h2, rfl, h4⟩ := chk_iff.1 hb
    rename_i n c m xs
    exact ⟨_, _, hF2, fun _ => ⟨mkS [(13, false, FAll)], noL, mkS_cons okAll (mkS_nil _), noL_ok, cCpy n m c xs ⟨h1, h2, rfl, h4⟩⟩⟩
  · cases hF
noncomputable def FResN : FSpec := fun args h k => match args, h with
  | [.pointer (some ⟨0, 0, none⟩)], [some ⟨true, 2, [.ints .i64 1 [n], .vals [.slice none 0 0]]⟩] => k (.tuple #[]) [mB true n (.slice none 0 0)]
  | _, _ => none
theorem okResN : EntryOK Try.prog 11 FResN := by
  refine EntryOK.of_paths (fn := Try.f11) follows_ok Try.func11 (by kernel_rfl) (by kernel_rfl) ?_
  intro args h k out hF
  unfold FResN at hF
  split at hF
  · exact ⟨_, _, hF, fun _ => ⟨mkS [], noL, mk0, noL_ok, cResN _⟩⟩
  · cases hF
noncomputable def FRes : FSpec := fun args h k => match args, h with
  | [.pointer (some ⟨0, 0, none⟩)], [some ⟨true, 2, [.ints .i64 1 [n], .vals [.slice (some ⟨1, 0, none⟩) m c]]⟩, some ⟨true, 1, [.ints .i64 m2 xs]⟩] =>
    bif chk (m2 = m ∧ c ≤ 2) then k (.tuple #[]) [mB true n (.slice none 0 0), rB true m xs] else none
  | _, _ => none
theorem okRes : EntryOK Try.prog 11 FRes := by
  refine EntryOK.of_paths (fn := Try.f11) follows_ok Try.func11 (by kernel_rfl) (by kernel_rfl) ?_
  intro args h k out hF
  unfold FRes at hF
  split at hF
  · obtain ⟨hb, hF2⟩ := bif_t hF
    obtain ⟨rfl, _⟩ := chk_iff.1 hb
    rename_i n c m xs _
    exact ⟨_, _, hF2, fun _ => ⟨mkS [], noL, mk0, noL_ok, cRes n m c xs⟩⟩
  · cases hF
noncomputable def FCpyB : FSpec := fun args h k => match h with
  | [_] => FCpyN args h k
  | _ => FCpy args h k
theorem okCpyB : EntryOK Try.prog 10 FCpyB := by
  intro args h k out hF
  unfold FCpyB at hF
  split at hF
  · exact okCpyN args _ k out hF
  · exact okCpy args _ k out hF
noncomputable def FResB : FSpec := fun args h k => match h with
  | [_] => FResN args h k
  | _ => FRes args h k
theorem okResB : EntryOK Try.prog 11 FResB := by
  intro args h k out hF
  unfold FResB at hF
  split at hF
  · exact okResN args _ k out hF
  · exact okRes args _ k out hF
noncomputable def FValN : FSpec := fun args h k => match args, h with
  | [.pointer (some ⟨0, 0, none⟩)], [some ⟨false, 2, [.ints .i64 1 [n], .vals [.slice none 0 0]]⟩] => k (.tuple ⟨[w63 0, .bool false]⟩) [mB false n (.slice none 0 0)]
  | _, _ => none
theorem okValN : EntryOK Try.prog 12 FValN := by
  refine EntryOK.of_paths (fn := Try.f12) follows_ok Try.func12 (by kernel_rfl) (by kernel_rfl) ?_
  intro args h k out hF
  unfold FValN at hF
  split at hF
  · exact ⟨_, _, hF, fun _ => ⟨mkS [(13, false, FAllN)], noL, mkS_cons okAllN (mkS_nil _), noL_ok, cValN _⟩⟩
  · cases hF
noncomputable def FValB : FSpec := fun args h k => match h with
  | [_] => FValN args h k
  | _ => FVal args h k
theorem okValB : EntryOK Try.prog 12 FValB := by
  intro args h k out hF
  unfold FValB at hF
  split at hF
  · exact okValN args _ k out hF
  · exact okVal args _ k out hF
noncomputable def FRAdB : FSpec := fun args h k => match h with
  | [_] => FRAdN args h k
  | _ => FRAd args h k
theorem okRAdB : EntryOK Try.prog 15 FRAdB := by
  intro args h k out hF
  unfold FRAdB at hF
  split at hF
  · exact okRAdN args _ k out hF
  · exact okRAd args _ k out hF
noncomputable def S3 : Spec := mkS [(10, false, FCpyB), (11, true, FResB), (12, false, FValB), (13, false, FAllB), (14, true, FAddB), (15, true, FRAdB), (16, false, FMidR), (17, false, FSam)]
theorem S3_ok : SpecOK Try.prog S3 := mkS_cons okCpyB (mkS_cons okResB (mkS_cons okValB (mkS_cons okAllB (mkS_cons okAddB (mkS_cons okRAdB (mkS_cons okMidR (mkS_cons okSam (mkS_nil _))))))))
/-! ### what is told may be written over -/
noncomputable def inner3 : Code := ((loops (loopOf Try.f3 0))[0]?).getD .skip
def live3i : List Nat := [6, 0, 2, 52, 53, 54, 7, 9, 15, 120, 121]
abbrev st3i (n r : Int) (N i k j : Nat) : List Value := [.bool false, w63 n, w63 r, sl 0 N 2, w63 N, w63 i, pt 1, pt 3, sl 5 k 1, w63 k, w63 j]
abbrev hp3i (n : Int) (N k o c N' : Nat) (gs xs l ys : List Int) : Heap := [rB false N gs, mB true n (sl 2 k 1), rB true k xs, mB true n (slW 4 o k c), rB true N' l, rB true k ys]
--CP p3i (n r : Int) (N i k j o c N' : Nat) (gs xs l ys : List Int) (on : List Value → Heap → Out) (out : Exit → List Value → Heap → Out) :: roundK Try.prog ((mkS []).on [(122, true)]) noL Try.f3.ntmps 1 inner3 live3i (st3i n r N i k j) (hp3i n N k o c N' gs xs l ys) on out
theorem p3i (n r : Int) (N i k j o c N' : Nat) (gs xs l ys : List Int) (on : List Value → Heap → Out) (out : Exit → List Value → Heap → Out)
    (w1 : -9223372036854775808 ≤ (↑j : Int) + (1 : Int) ∧ (↑j : Int) + (1 : Int) ≤ 9223372036854775807 := by omega)
    (h1 : (↑j : Int) < (↑k : Int) := by first | omega | assumption | rfl)
    (h2 : (0 : Int) ≤ (↑j : Int) := by first | omega | assumption | rfl)
    (h3 : j < k := by first | omega | assumption | rfl) : roundK Try.prog ((mkS []).on [(122, true)]) noL Try.f3.ntmps 1 inner3 live3i (st3i n r N i k j) (hp3i n N k o c N' gs xs l ys) on out =
     (on [Value.bool false, Value.int IntKind.i64 n, Value.int IntKind.i64 r, Value.slice (some (Addr.mk (0 : Nat) (0 : Nat) none)) N (2 : Nat), Value.int IntKind.i64 (↑N : Int), Value.int IntKind.i64 (↑i
     : Int), Value.pointer (some (Addr.mk (1 : Nat) (0 : Nat) none)), Value.pointer (some (Addr.mk (3 : Nat) (0 : Nat) none)), Value.slice (some (Addr.mk (5 : Nat) (0 : Nat) none)) k (1 : Nat), Value.int
     IntKind.i64 (↑k : Int), Value.int IntKind.i64 ((↑j : Int) + (1 : Int))] [some (Blk.mk false (1 : Nat) [Seg.ints IntKind.i64 N gs]), some (Blk.mk true (2 : Nat) [Seg.ints IntKind.i64 (1 : Nat) [n],
     Seg.vals [Value.slice (some (Addr.mk (2 : Nat) (0 : Nat) none)) k (1 : Nat)]]), some (Blk.mk true (1 : Nat) [Seg.ints IntKind.i64 k xs]), some (Blk.mk true (2 : Nat) [Seg.ints IntKind.i64 (1 : Nat)
     [n], Seg.vals [Value.slice (some (Addr.mk (4 : Nat) o none)) k c]]), some (Blk.mk true (1 : Nat) [Seg.ints IntKind.i64 N' l]), some (Blk.mk true (1 : Nat) [Seg.ints IntKind.i64 k (ys.set j
     (IntKind.i64.wrap (ys.getD j (0 : Int) + (1 : Int))))])]) :=
  Eq.trans (b :=
     bif decide ((↑j : Int) < (↑k : Int)) then bif decide ((0 : Int) ≤ (↑j : Int)) && decide ((↑j : Int) < (↑k : Int)) then bif ((0 : Nat) + (↑j : Int).toNat * (1 : Nat)).blt k then bif decide ((0 : Int) ≤
     (↑j : Int)) && decide ((↑j : Int) < (↑k : Int)) then bif ((0 : Nat) + (↑j : Int).toNat * (1 : Nat)).blt k then on [Value.bool false, Value.int IntKind.i64 n, Value.int IntKind.i64 r, Value.slice (some
     (Addr.mk (0 : Nat) (0 : Nat) none)) N (2 : Nat), Value.int IntKind.i64 (↑N : Int), Value.int IntKind.i64 (↑i : Int), Value.pointer (some (Addr.mk (1 : Nat) (0 : Nat) none)), Value.pointer (some
     (Addr.mk (3 : Nat) (0 : Nat) none)), Value.slice (some (Addr.mk (5 : Nat) (0 : Nat) none)) k (1 : Nat), Value.int IntKind.i64 (↑k : Int), Value.int IntKind.i64 (IntKind.i64.wrap ((↑j : Int) + (1 :
     Int)))] [some (Blk.mk false (1 : Nat) [Seg.ints IntKind.i64 N gs]), some (Blk.mk true (2 : Nat) [Seg.ints IntKind.i64 (1 : Nat) [n], Seg.vals [Value.slice (some (Addr.mk (2 : Nat) (0 : Nat) none)) k
     (1 : Nat)]]), some (Blk.mk true (1 : Nat) [Seg.ints IntKind.i64 k xs]), some (Blk.mk true (2 : Nat) [Seg.ints IntKind.i64 (1 : Nat) [n], Seg.vals [Value.slice (some (Addr.mk (4 : Nat) o none)) k c]]),
     some (Blk.mk true (1 : Nat) [Seg.ints IntKind.i64 N' l]), some (Blk.mk true (1 : Nat) [Seg.ints IntKind.i64 k (ys.set ((0 : Nat) + (↑j : Int).toNat * (1 : Nat)) (IntKind.i64.wrap (ys.getD ((0 : Nat) +
     (↑j : Int).toNat * (1 : Nat)) (0 : Int) + (1 : Int))))])] else none else none else none else none else none) (by kernel_rfl) (by simp only [-eq_self, Int.toNat_natCast, Nat.mul_one, Nat.zero_add, swrap w1.1 w1.2]; exact (go_t (dec_t h1) (go_t (and_t (dec_t h2) (dec_t h1)) (go_t (blt_t h3) (go_t (and_t (dec_t h2) (dec_t h1)) (go_t (blt_t h3) rfl))))))
--CFEND
--CP p3ix (n r : Int) (N i k o c N' : Nat) (gs xs l ys : List Int) (on : List Value → Heap → Out) (out : Exit → List Value → Heap → Out) :: roundK Try.prog ((mkS []).on [(122, false)]) noL Try.f3.ntmps 1 inner3 live3i (st3i n r N i k k) (hp3i n N k o c N' gs xs l ys) on out
theorem p3ix (n r : Int) (N i k o c N' : Nat) (gs xs l ys : List Int) (on : List Value → Heap → Out) (out : Exit → List Value → Heap → Out)
    (h1 : ¬(↑k : Int) < (↑k : Int) := by first | omega | assumption | rfl) : roundK Try.prog ((mkS []).on [(122, false)]) noL Try.f3.ntmps 1 inner3 live3i (st3i n r N i k k) (hp3i n N k o c N' gs xs l ys) on out =
     (out (Exit.exit (2 : Nat)) [Value.bool false, Value.int IntKind.i64 n, Value.int IntKind.i64 r, Value.slice (some (Addr.mk (0 : Nat) (0 : Nat) none)) N (2 : Nat), Value.int IntKind.i64 (↑N : Int),
     Value.int IntKind.i64 (↑i : Int), Value.pointer (some (Addr.mk (1 : Nat) (0 : Nat) none)), Value.pointer (some (Addr.mk (3 : Nat) (0 : Nat) none)), Value.slice (some (Addr.mk (5 : Nat) (0 : Nat)
     none)) k (1 : Nat), Value.int IntKind.i64 (↑k : Int), Value.int IntKind.i64 (↑k : Int)] [some (Blk.mk false (1 : Nat) [Seg.ints IntKind.i64 N gs]), some (Blk.mk true (2 : Nat) [Seg.ints IntKind.i64 (1
     : Nat) [n], Seg.vals [Value.slice (some (Addr.mk (2 : Nat) (0 : Nat) none)) k (1 : Nat)]]), some (Blk.mk true (1 : Nat) [Seg.ints IntKind.i64 k xs]), some (Blk.mk true (2 : Nat) [Seg.ints IntKind.i64
     (1 : Nat) [n], Seg.vals [Value.slice (some (Addr.mk (4 : Nat) o none)) k c]]), some (Blk.mk true (1 : Nat) [Seg.ints IntKind.i64 N' l]), some (Blk.mk true (1 : Nat) [Seg.ints IntKind.i64 k ys])]) :=
  Eq.trans (by kernel_rfl) (go_f (dec_f h1) rfl)
--CFEND
end Go.Proofs.Ythdeanljgdjbhaa.VC
