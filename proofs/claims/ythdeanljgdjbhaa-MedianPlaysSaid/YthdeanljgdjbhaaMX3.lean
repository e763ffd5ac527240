/- The window of numbers: the page's example. -/
import Derived.Test.YthdeanljgdjbhaaMX2
namespace Go.Proofs.Ythdeanljgdjbhaa.VC
open Go Go.Proofs

/-- The first number, or one more. -/
noncomputable def FAddB : FSpec := fun args h k => match h with
  | [_] => FAddN args h k
  | _ => FAdd args h k
theorem okAddB : EntryOK Try.prog 14 FAddB := by
  intro args h k out hF
  unfold FAddB at hF
  split at hF
  · exact okAddN args _ k out hF
  · exact okAdd args _ k out hF
noncomputable def FAllB : FSpec := fun args h k => match h with
  | [_] => FAllN args h k
  | _ => FAll args h k
theorem okAllB : EntryOK Try.prog 13 FAllB := by
  intro args h k out hF
  unfold FAllB at hF
  split at hF
  · exact okAllN args _ k out hF
  · exact okAll args _ k out hF
noncomputable def FNew : FSpec := fun args h k => match args, h with
  | [.int .i64 n], [] => bif chk (1 ≤ n ∧ n ≤ 15) then k (.tuple ⟨[pt 0, w63 0]⟩) [mB true n (.slice none 0 0)] else none
  | _, _ => none
theorem okNew : EntryOK Try.prog 9 FNew := by
  refine EntryOK.of_paths (fn := Try.f9) follows_ok Try.func9 (by kernel_rfl) (by kernel_rfl) ?_
  intro args h k out hF
  unfold FNew at hF
  split at hF
  · obtain ⟨hb, hF2⟩ := bif_t hF
    obtain ⟨h1, h2⟩ := chk_iff.1 hb
    rename_i n
    exact ⟨_, _, hF2, fun _ => ⟨(mkS []).on [(9, false)], noL, mk0, noL_ok, cNewT n (by omega) (by omega)⟩⟩
  · cases hF
def live8 : List Nat := [0, 1, 19, 20]
noncomputable def S8 : Spec := mkS [(14, true, FAddB)]
abbrev tab8 : Value := .agg #[w63 5, w63 5, w63 9, w63 5, w63 7, w63 7, w63 1, w63 7]
--CP p8a (on : List Value → Heap → Out) (out : Exit → List Value → Heap → Out) :: roundK Try.prog ((S8.on [(21, true), (29, false)]).calm [(7, [2, 5], [1])]) noL Try.f8.ntmps 0 (loopOf Try.f8 0) live8 [.bool false, pt 0, tab8, w63 0] [mB true 3 (.slice none 0 0)] on out
theorem p8a (on : List Value → Heap → Out) (out : Exit → List Value → Heap → Out)
    (h1 : (1 : Int) ≤ (3 : Int) := by first | omega | assumption | rfl) : roundK Try.prog ((S8.on [(21, true), (29, false)]).calm [(7, [2, 5], [1])]) noL Try.f8.ntmps 0 (loopOf Try.f8 0) live8 [.bool false, pt 0, tab8, w63 0] [mB true 3 (.slice none 0 0)] on out =
     (on [Value.bool false, Value.pointer (some (Addr.mk (0 : Nat) (0 : Nat) none)), Value.agg #[Value.int IntKind.i64 (5 : Int), Value.int IntKind.i64 (5 : Int), Value.int IntKind.i64 (9 : Int), Value.int
     IntKind.i64 (5 : Int), Value.int IntKind.i64 (7 : Int), Value.int IntKind.i64 (7 : Int), Value.int IntKind.i64 (1 : Int), Value.int IntKind.i64 (7 : Int)], Value.int IntKind.i64 (1 : Int)] [some
     (Blk.mk true (2 : Nat) [Seg.ints IntKind.i64 (1 : Nat) [(3 : Int)], Seg.vals [Value.slice (some (Addr.mk (1 : Nat) (0 : Nat) none)) (1 : Nat) (1 : Nat)]]), some (Blk.mk true (1 : Nat) [Seg.ints
     IntKind.i64 (1 : Nat) [(5 : Int)]])]) :=
  Eq.trans (by kernel_rfl) (go_t (chk_t h1) rfl)
--CFEND
--CP p8b (k : Nat) (xs : List Int) (on : List Value → Heap → Out) (out : Exit → List Value → Heap → Out) :: roundK Try.prog ((S8.on [(21, true), (29, false)]).calm [(7, [2, 5], [2])]) noL Try.f8.ntmps 0 (loopOf Try.f8 0) live8 [.bool false, pt 0, tab8, w63 1] [mB true 3 (sl 1 k 1), rB true k xs] on out
theorem p8b (k : Nat) (xs : List Int) (on : List Value → Heap → Out) (out : Exit → List Value → Heap → Out)
    (h1 : (1 : Nat) ≤ k ∧ k ≤ (15 : Nat) ∧ k = k ∧ xs.length = k ∧ (1 : Nat) = (1 : Nat) ∧ (↑k : Int) ≤ (3 : Int) := by first | omega | assumption | rfl | ((repeat' with_reducible apply And.intro) <;> first | rfl | assumption | omega))
    (h2 : mid (pushW (3 : Int) xs (9 : Int)) = (5 : Int) := by first | omega | assumption | rfl) : roundK Try.prog ((S8.on [(21, true), (29, false)]).calm [(7, [2, 5], [2])]) noL Try.f8.ntmps 0 (loopOf Try.f8 0) live8 [.bool false, pt 0, tab8, w63 1] [mB true 3 (sl 1 k 1), rB true k xs] on out =
     (on [Value.bool false, Value.pointer (some (Addr.mk (0 : Nat) (0 : Nat) none)), Value.agg #[Value.int IntKind.i64 (5 : Int), Value.int IntKind.i64 (5 : Int), Value.int IntKind.i64 (9 : Int), Value.int
     IntKind.i64 (5 : Int), Value.int IntKind.i64 (7 : Int), Value.int IntKind.i64 (7 : Int), Value.int IntKind.i64 (1 : Int), Value.int IntKind.i64 (7 : Int)], Value.int IntKind.i64 (2 : Int)] [some
     (Blk.mk true (2 : Nat) [Seg.ints IntKind.i64 (1 : Nat) [(3 : Int)], Seg.vals [Value.slice (some (Addr.mk (1 : Nat) (0 : Nat) none)) (pushW (3 : Int) xs (9 : Int)).length (1 : Nat)]]), some (Blk.mk
     true (1 : Nat) [Seg.ints IntKind.i64 (pushW (3 : Int) xs (9 : Int)).length (pushW (3 : Int) xs (9 : Int))])]) :=
  Eq.trans (by kernel_rfl) (go_t (chk_t h1) (go_f (bne_f h2) rfl))
--CFEND
--CP p8c (k : Nat) (xs : List Int) (on : List Value → Heap → Out) (out : Exit → List Value → Heap → Out) :: roundK Try.prog ((S8.on [(21, true), (29, false)]).calm [(7, [2, 5], [2])]) noL Try.f8.ntmps 0 (loopOf Try.f8 0) live8 [.bool false, pt 0, tab8, w63 2] [mB true 3 (sl 1 k 1), rB true k xs] on out
theorem p8c (k : Nat) (xs : List Int) (on : List Value → Heap → Out) (out : Exit → List Value → Heap → Out)
    (h1 : (1 : Nat) ≤ k ∧ k ≤ (15 : Nat) ∧ k = k ∧ xs.length = k ∧ (1 : Nat) = (1 : Nat) ∧ (↑k : Int) ≤ (3 : Int) := by first | omega | assumption | rfl | ((repeat' with_reducible apply And.intro) <;> first | rfl | assumption | omega))
    (h2 : mid (pushW (3 : Int) xs (7 : Int)) = (7 : Int) := by first | omega | assumption | rfl) : roundK Try.prog ((S8.on [(21, true), (29, false)]).calm [(7, [2, 5], [2])]) noL Try.f8.ntmps 0 (loopOf Try.f8 0) live8 [.bool false, pt 0, tab8, w63 2] [mB true 3 (sl 1 k 1), rB true k xs] on out =
     (on [Value.bool false, Value.pointer (some (Addr.mk (0 : Nat) (0 : Nat) none)), Value.agg #[Value.int IntKind.i64 (5 : Int), Value.int IntKind.i64 (5 : Int), Value.int IntKind.i64 (9 : Int), Value.int
     IntKind.i64 (5 : Int), Value.int IntKind.i64 (7 : Int), Value.int IntKind.i64 (7 : Int), Value.int IntKind.i64 (1 : Int), Value.int IntKind.i64 (7 : Int)], Value.int IntKind.i64 (3 : Int)] [some
     (Blk.mk true (2 : Nat) [Seg.ints IntKind.i64 (1 : Nat) [(3 : Int)], Seg.vals [Value.slice (some (Addr.mk (1 : Nat) (0 : Nat) none)) (pushW (3 : Int) xs (7 : Int)).length (1 : Nat)]]), some (Blk.mk
     true (1 : Nat) [Seg.ints IntKind.i64 (pushW (3 : Int) xs (7 : Int)).length (pushW (3 : Int) xs (7 : Int))])]) :=
  Eq.trans (by kernel_rfl) (go_t (chk_t h1) (go_f (bne_f h2) rfl))
--CFEND
--CP p8d (k : Nat) (xs : List Int) (on : List Value → Heap → Out) (out : Exit → List Value → Heap → Out) :: roundK Try.prog ((S8.on [(21, true), (29, false)]).calm [(7, [2, 5], [2])]) noL Try.f8.ntmps 0 (loopOf Try.f8 0) live8 [.bool false, pt 0, tab8, w63 3] [mB true 3 (sl 1 k 1), rB true k xs] on out
theorem p8d (k : Nat) (xs : List Int) (on : List Value → Heap → Out) (out : Exit → List Value → Heap → Out)
    (h1 : (1 : Nat) ≤ k ∧ k ≤ (15 : Nat) ∧ k = k ∧ xs.length = k ∧ (1 : Nat) = (1 : Nat) ∧ (↑k : Int) ≤ (3 : Int) := by first | omega | assumption | rfl | ((repeat' with_reducible apply And.intro) <;> first | rfl | assumption | omega))
    (h2 : mid (pushW (3 : Int) xs (1 : Int)) = (7 : Int) := by first | omega | assumption | rfl) : roundK Try.prog ((S8.on [(21, true), (29, false)]).calm [(7, [2, 5], [2])]) noL Try.f8.ntmps 0 (loopOf Try.f8 0) live8 [.bool false, pt 0, tab8, w63 3] [mB true 3 (sl 1 k 1), rB true k xs] on out =
     (on [Value.bool false, Value.pointer (some (Addr.mk (0 : Nat) (0 : Nat) none)), Value.agg #[Value.int IntKind.i64 (5 : Int), Value.int IntKind.i64 (5 : Int), Value.int IntKind.i64 (9 : Int), Value.int
     IntKind.i64 (5 : Int), Value.int IntKind.i64 (7 : Int), Value.int IntKind.i64 (7 : Int), Value.int IntKind.i64 (1 : Int), Value.int IntKind.i64 (7 : Int)], Value.int IntKind.i64 (4 : Int)] [some
     (Blk.mk true (2 : Nat) [Seg.ints IntKind.i64 (1 : Nat) [(3 : Int)], Seg.vals [Value.slice (some (Addr.mk (1 : Nat) (0 : Nat) none)) (pushW (3 : Int) xs (1 : Int)).length (1 : Nat)]]), some (Blk.mk
     true (1 : Nat) [Seg.ints IntKind.i64 (pushW (3 : Int) xs (1 : Int)).length (pushW (3 : Int) xs (1 : Int))])]) :=
  Eq.trans (by kernel_rfl) (go_t (chk_t h1) (go_f (bne_f h2) rfl))
--CFEND
--CP p8x (k : Nat) (xs : List Int) (on : List Value → Heap → Out) (out : Exit → List Value → Heap → Out) :: roundK Try.prog (S8.on [(21, false)]) noL Try.f8.ntmps 0 (loopOf Try.f8 0) live8 [.bool false, pt 0, tab8, w63 4] [mB true 3 (sl 1 k 1), rB true k xs] on out
theorem p8x (k : Nat) (xs : List Int) (on : List Value → Heap → Out) (out : Exit → List Value → Heap → Out) : roundK Try.prog (S8.on [(21, false)]) noL Try.f8.ntmps 0 (loopOf Try.f8 0) live8 [.bool false, pt 0, tab8, w63 4] [mB true 3 (sl 1 k 1), rB true k xs] on out =
     (out (Exit.exit (0 : Nat)) [Value.bool false, Value.pointer (some (Addr.mk (0 : Nat) (0 : Nat) none)), Value.agg #[Value.int IntKind.i64 (5 : Int), Value.int IntKind.i64 (5 : Int), Value.int
     IntKind.i64 (9 : Int), Value.int IntKind.i64 (5 : Int), Value.int IntKind.i64 (7 : Int), Value.int IntKind.i64 (7 : Int), Value.int IntKind.i64 (1 : Int), Value.int IntKind.i64 (7 : Int)], Value.int
     IntKind.i64 (4 : Int)] [some (Blk.mk true (2 : Nat) [Seg.ints IntKind.i64 (1 : Nat) [(3 : Int)], Seg.vals [Value.slice (some (Addr.mk (1 : Nat) (0 : Nat) none)) k (1 : Nat)]]), some (Blk.mk true (1 :
     Nat) [Seg.ints IntKind.i64 k xs])]) :=
  Eq.trans (by kernel_rfl) rfl
--CFEND
theorem S8_ok : SpecOK Try.prog S8 := mkS_cons okAddB (mkS_nil _)
theorem mid_a : mid (pushW 3 [5] 9) = 5 := by
  rw [show pushW 3 [5] 9 = [5, 9] from rfl, mid, srt, midI_eq _ (by simp)]; simp [List.mergeSort, List.MergeSort.Internal.splitInTwo, List.merge]
theorem mid_b : mid (pushW 3 [5, 9] 7) = 7 := by
  rw [show pushW 3 [5, 9] 7 = [5, 9, 7] from rfl, mid, srt, midI_eq _ (by simp)]; simp [List.mergeSort, List.MergeSort.Internal.splitInTwo, List.merge]
theorem mid_c : mid (pushW 3 [5, 9, 7] 1) = 7 := by
  rw [show pushW 3 [5, 9, 7] 1 = [9, 7, 1] from rfl, mid, srt, midI_eq _ (by simp)]; simp [List.mergeSort, List.MergeSort.Internal.splitInTwo, List.merge]
noncomputable def L8f : LF := fun vs h k => match vs, h with
  | [.bool false, .pointer (some ⟨0, 0, none⟩), .agg ⟨[.int .i64 5, .int .i64 5, .int .i64 9, .int .i64 5, .int .i64 7, .int .i64 7, .int .i64 1, .int .i64 7]⟩, .int .i64 0], [some ⟨true, 2, [.ints .i64 1 [3], .vals [.slice none 0 0]]⟩] =>
    k (.exit 0) [.bool false, pt 0, tab8, w63 4] [mB true 3 (sl 1 3 1), rB true 3 [9, 7, 1]]
  | _, _ => none
noncomputable def L8 : LSpec := oneL 5 live8 L8f
theorem loopOK8 : LoopOK Try.prog Try.f8.ntmps 0 (loopOf Try.f8 0) live8 L8f := by
  refine LoopOK.of_T ?_
  intro vs h k out hk
  unfold L8f at hk
  split at hk
  · refine ⟨_, _, _, hk, fun _ => ?_⟩
    refine LoopT.step (CodeT.on (S := (S8.on [(21, true), (29, false)]).calm [(7, [2, 5], [1])]) S8_ok noL_ok (fun on out => p8a on out)) ?_
    refine LoopT.step (CodeT.on (S := (S8.on [(21, true), (29, false)]).calm [(7, [2, 5], [2])]) S8_ok noL_ok (fun on out => p8b 1 [5] on out ⟨by omega, by omega, rfl, rfl, rfl, by omega⟩ mid_a)) ?_
    refine LoopT.step (CodeT.on (S := (S8.on [(21, true), (29, false)]).calm [(7, [2, 5], [2])]) S8_ok noL_ok (fun on out => p8c 2 [5, 9] on out ⟨by omega, by omega, rfl, rfl, rfl, by omega⟩ mid_b)) ?_
    refine LoopT.step (CodeT.on (S := (S8.on [(21, true), (29, false)]).calm [(7, [2, 5], [2])]) S8_ok noL_ok (fun on out => p8d 3 [5, 9, 7] on out ⟨by omega, by omega, rfl, rfl, rfl, by omega⟩ mid_c)) ?_
    exact LoopT.last (by simp) (CodeT.out (S := S8.on [(21, false)]) S8_ok noL_ok (fun on out => p8x 3 [9, 7, 1] on out))
  · cases hk
theorem loops8 : LoopsOK Try.prog L8 Try.f8.ntmps 0 (bodyOf Try.f8) := loops_one rfl (by kernel_rfl) loopOK8
noncomputable def S8k : Spec := mkS [(9, false, FNew)]
--CP p8 . :: fnK Try.prog (S8k.on [(14, false)]) L8 Try.f8 [] []
theorem p8 
    (h1 : (1 : Int) ≤ (3 : Int) ∧ (3 : Int) ≤ (15 : Int) := by first | omega | assumption | rfl | ((repeat' with_reducible apply And.intro) <;> first | rfl | assumption | omega)) : fnK Try.prog (S8k.on [(14, false)]) L8 Try.f8 [] [] =
     (some (Res.ret (Value.bool true) [])) :=
  Eq.trans (by kernel_rfl) (go_t (chk_t h1) rfl)
--CFEND
theorem S8k_ok : SpecOK Try.prog S8k := mkS_cons okNew (mkS_nil _)
def FKnwT : FSpec := fun args h k => match args, h with
  | [], [] => k (.bool true) []
  | _, _ => none
theorem okKnw : EntryOK Try.prog 8 FKnwT := by
  refine EntryOK.of_paths (fn := Try.f8) follows_ok Try.func8 (by kernel_rfl) (by kernel_rfl) ?_
  intro args h k out hF
  unfold FKnwT at hF
  split at hF
  · exact ⟨_, _, hF, fun _ => ⟨S8k.on [(14, false)], L8, S8k_ok, loops8, p8⟩⟩
  · cases hF
end Go.Proofs.Ythdeanljgdjbhaa.VC
