/- MedianMiddle. -/
import Derived.Test.YthdeanljgdjbhaaMX5
namespace Go.Proofs.Ythdeanljgdjbhaa.VC
open Go Go.Proofs

noncomputable def FAddC : FSpec := fun args h k => match h with
  | [] => match args with
    | [.pointer none, .int .i64 _] => k (w63 0) []
    | _ => none
  | [_] => FAddN args h k
  | _ => FAdd args h k
theorem okAddC : EntryOK Try.prog 14 FAddC := by
  intro args h k out hF
  unfold FAddC at hF
  split at hF
  · split at hF
    · refine EntryOK.of_paths (fn := Try.f14) (F := fun args h k => match args, h with | [.pointer none, .int .i64 _], [] => k (w63 0) [] | _, _ => none) follows_ok Try.func14 (by kernel_rfl) (by kernel_rfl) ?_ _ _ k out hF
      intro args h k out hF
      split at hF
      · exact ⟨_, _, hF, fun _ => ⟨_, noL, mk0, noL_ok, cAdd0 _⟩⟩
      · cases hF
    · cases hF
  · exact okAddN args _ k out hF
  · exact okAdd args _ k out hF
def FAll0 : FSpec := fun args h k => match args, h with
  | [.pointer none], [] => k (.slice none 0 0) []
  | _, _ => none
theorem okAll0 : EntryOK Try.prog 13 FAll0 := by
  refine EntryOK.of_paths (fn := Try.f13) follows_ok Try.func13 (by kernel_rfl) (by kernel_rfl) ?_
  intro args h k out hF
  unfold FAll0 at hF
  split at hF
  · exact ⟨_, _, hF, fun _ => ⟨_, noL, mk0, noL_ok, cAll0⟩⟩
  · cases hF
def FRes0 : FSpec := fun args h k => match args, h with
  | [.pointer none], [] => k (.tuple #[]) []
  | _, _ => none
theorem okRes0 : EntryOK Try.prog 11 FRes0 := by
  refine EntryOK.of_paths (fn := Try.f11) follows_ok Try.func11 (by kernel_rfl) (by kernel_rfl) ?_
  intro args h k out hF
  unfold FRes0 at hF
  split at hF
  · exact ⟨_, _, hF, fun _ => ⟨_, noL, mk0, noL_ok, cRes0⟩⟩
  · cases hF
def FCpy0 : FSpec := fun args h k => match args, h with
  | [.pointer none], [] => k (.pointer none) []
  | _, _ => none
theorem okCpy0 : EntryOK Try.prog 10 FCpy0 := by
  refine EntryOK.of_paths (fn := Try.f10) follows_ok Try.func10 (by kernel_rfl) (by kernel_rfl) ?_
  intro args h k out hF
  unfold FCpy0 at hF
  split at hF
  · exact ⟨_, _, hF, fun _ => ⟨_, noL, mk0, noL_ok, cCpy0⟩⟩
  · cases hF
noncomputable def S12z : Spec := mkS [(13, false, FAll0)]
--CP cValZ . :: fnK Try.prog S12z noL Try.f12 [.pointer none] []
theorem cValZ  : fnK Try.prog S12z noL Try.f12 [.pointer none] [] =
     (some (Res.ret (Value.tuple (Array.mk [Value.int IntKind.i64 (0 : Int), Value.bool false])) [])) :=
  Eq.trans (by kernel_rfl) rfl
--CFEND
theorem S12z_ok : SpecOK Try.prog S12z := mkS_cons okAll0 (mkS_nil _)
def FVal0 : FSpec := fun args h k => match args, h with
  | [.pointer none], [] => k (.tuple ⟨[w63 0, .bool false]⟩) []
  | _, _ => none
theorem okVal0 : EntryOK Try.prog 12 FVal0 := by
  refine EntryOK.of_paths (fn := Try.f12) follows_ok Try.func12 (by kernel_rfl) (by kernel_rfl) ?_
  intro args h k out hF
  unfold FVal0 at hF
  split at hF
  · exact ⟨_, _, hF, fun _ => ⟨_, noL, S12z_ok, noL_ok, cValZ⟩⟩
  · cases hF
/-- New, where there is no window of that size. -/
noncomputable def FNewE : FSpec := fun args h k => match args, h with
  | [.int .i64 n], [] => bif chk (¬ (1 ≤ n ∧ n ≤ 15)) then k (.tuple ⟨[.pointer none, w63 2]⟩) [] else none
  | _, _ => none
--CP cNewA (n : Int) :: fnK Try.prog ((mkS []).on [(9, true)]) noL Try.f9 [w63 n] []
theorem cNewA (n : Int) : fnK Try.prog ((mkS []).on [(9, true)]) noL Try.f9 [w63 n] [] =
     (bif decide (n < (1 : Int)) then some (Res.ret (Value.tuple (Array.mk [Value.pointer none, Value.int IntKind.i64 (2 : Int)])) []) else bif decide (n > (15 : Int)) then some (Res.ret (Value.tuple
     (Array.mk [Value.pointer none, Value.int IntKind.i64 (2 : Int)])) []) else none) :=
  Eq.trans (by kernel_rfl) rfl
--CFEND
noncomputable def S4t : Spec := mkS [(8, false, FKnwT), (9, false, FNew), (14, true, FAddC), (11, true, FRes0), (12, false, FVal0), (13, false, FAll0), (10, false, FCpy0)]
--CP p4 (n a b f : Int) (N : Nat) (gs : List Int) :: fnK Try.prog (S4t.on [(39, false), (101, false)]) L4 Try.f4 [w63 n, sl 0 N 2, w63 a, w63 b, w63 f] [rB false N gs]
theorem p4 (n a b f : Int) (N : Nat) (gs : List Int)
    (h1 : (1 : Int) ≤ n ∧ n ≤ (15 : Int) := by first | omega | assumption | rfl | ((repeat' with_reducible apply And.intro) <;> first | rfl | assumption | omega))
    (h2 : ¬(↑N : Int) > (100 : Int) := by first | omega | assumption | rfl)
    (h3 : (↑N : Int) = (↑N : Int) ∧ N = N ∧ n = n ∧ (1 : Int) ≤ n ∧ n ≤ (15 : Int) ∧ N ≤ (100 : Nat) := by first | omega | assumption | rfl | ((repeat' with_reducible apply And.intro) <;> first | rfl | assumption | omega))
    (h4 : (1 : Int) ≤ (3 : Int) ∧ (3 : Int) ≤ (15 : Int) := by first | omega | assumption | rfl | ((repeat' with_reducible apply And.intro) <;> first | rfl | assumption | omega))
    (h5 : (1 : Int) ≤ (3 : Int) := by first | omega | assumption | rfl)
    (h6 : (1 : Nat) ≤ (1 : Nat) ∧ (1 : Nat) ≤ (15 : Nat) ∧ (1 : Nat) = (1 : Nat) ∧ [a].length = (1 : Nat) ∧ (1 : Nat) = (1 : Nat) ∧ (1 : Int) ≤ (3 : Int) := by first | omega | assumption | rfl | ((repeat' with_reducible apply And.intro) <;> first | rfl | assumption | omega))
    (h7 : (1 : Nat) ≤ (pushW (3 : Int) [a] f).length ∧ (pushW (3 : Int) [a] f).length ≤ (15 : Nat) ∧ (pushW (3 : Int) [a] f).length = (pushW (3 : Int) [a] f).length ∧ (pushW (3 : Int) [a] f).length = (pushW (3 : Int) [a] f).length ∧ (1 : Nat) = (1 : Nat) ∧ (↑(pushW (3 : Int) [a] f).length : Int) ≤ (3 : Int) := by first | omega | assumption | rfl | ((repeat' with_reducible apply And.intro) <;> first | rfl | assumption | omega)) : fnK Try.prog (S4t.on [(39, false), (101, false)]) L4 Try.f4 [w63 n, sl 0 N 2, w63 a, w63 b, w63 f] [rB false N gs] =
     (bif decide (mid (pushW (3 : Int) (pushW (3 : Int) [a] f) b) ≥ if b < a then b else a) then bif decide (mid (pushW (3 : Int) (pushW (3 : Int) [a] f) b) ≤ if b > a then b else a) then some (Res.ret
     (Value.bool true) [some (Blk.mk false (1 : Nat) [Seg.ints IntKind.i64 N gs])]) else some (Res.ret (Value.bool false) [some (Blk.mk false (1 : Nat) [Seg.ints IntKind.i64 N gs])]) else some (Res.ret
     (Value.bool false) [some (Blk.mk false (1 : Nat) [Seg.ints IntKind.i64 N gs])])) :=
  Eq.trans (by kernel_rfl) (go_t (chk_t h1) (go_f (dec_f h2) (go_t (chk_t h3) (go_t (chk_t h4) (go_t (chk_t h5) (go_t (chk_t h6) (go_t (chk_t h7) rfl)))))))
--CFEND
--CP p4L (n a b f : Int) (N : Nat) (gs : List Int) :: fnK Try.prog (S4t.on [(35, false), (39, true)]) L4 Try.f4 [w63 n, sl 0 N 2, w63 a, w63 b, w63 f] [rB false N gs]
theorem p4L (n a b f : Int) (N : Nat) (gs : List Int)
    (h1 : (1 : Int) ≤ n ∧ n ≤ (15 : Int) := by first | omega | assumption | rfl | ((repeat' with_reducible apply And.intro) <;> first | rfl | assumption | omega))
    (h2 : (↑N : Int) > (100 : Int) := by first | omega | assumption | rfl) : fnK Try.prog (S4t.on [(35, false), (39, true)]) L4 Try.f4 [w63 n, sl 0 N 2, w63 a, w63 b, w63 f] [rB false N gs] =
     (some (Res.ret (Value.bool true) [some (Blk.mk false (1 : Nat) [Seg.ints IntKind.i64 N gs])])) :=
  Eq.trans (by kernel_rfl) (go_t (chk_t h1) (go_t (dec_t h2) rfl))
--CFEND
noncomputable def S4e : Spec := mkS [(8, false, FKnwT), (9, false, FNewE)]
--CP p4E (n a b f : Int) (N : Nat) (gs : List Int) :: fnK Try.prog (S4e.on [(39, true)]) L4 Try.f4 [w63 n, sl 0 N 2, w63 a, w63 b, w63 f] [rB false N gs]
theorem p4E (n a b f : Int) (N : Nat) (gs : List Int)
    (h1 : ¬((1 : Int) ≤ n ∧ n ≤ (15 : Int)) := by first | omega | assumption | rfl | ((repeat' with_reducible apply And.intro) <;> first | rfl | assumption | omega)) : fnK Try.prog (S4e.on [(39, true)]) L4 Try.f4 [w63 n, sl 0 N 2, w63 a, w63 b, w63 f] [rB false N gs] =
     (some (Res.ret (Value.bool true) [some (Blk.mk false (1 : Nat) [Seg.ints IntKind.i64 N gs])])) :=
  Eq.trans (by kernel_rfl) (go_t (chk_t h1) rfl)
--CFEND
theorem okNewE : EntryOK Try.prog 9 FNewE := by
  refine EntryOK.of_paths (fn := Try.f9) follows_ok Try.func9 (by kernel_rfl) (by kernel_rfl) ?_
  intro args h k out hF
  unfold FNewE at hF
  split at hF
  · obtain ⟨hb, hF2⟩ := bif_t hF
    have hn := chk_iff.1 hb
    rename_i n
    refine ⟨_, _, hF2, fun _ => ⟨(mkS []).on [(9, true)], noL, mk0, noL_ok, ?_⟩⟩
    rw [cNewA]
    by_cases h : n < 1
    · rw [decide_eq_true h]; rfl
    · rw [decide_eq_false h, decide_eq_true (show n > 15 by omega)]; rfl
  · cases hF
theorem S4t_ok : SpecOK Try.prog S4t := mkS_cons okKnw (mkS_cons okNew (mkS_cons okAddC (mkS_cons okRes0 (mkS_cons okVal0 (mkS_cons okAll0 (mkS_cons okCpy0 (mkS_nil _)))))))
theorem S4e_ok : SpecOK Try.prog S4e := mkS_cons okKnw (mkS_cons okNewE (mkS_nil _))
noncomputable def F4 : FSpec := fun args h k => match args, h with
  | [.int .i64 _, .slice (some ⟨0, 0, none⟩) N 2, .int .i64 _, .int .i64 _, .int .i64 _], [some ⟨false, 1, [.ints .i64 N2 gs]⟩] => bif chk (N2 = N) then k (.bool true) [rB false N gs] else none
  | _, _ => none
theorem ok4 : EntryOK Try.prog 4 F4 := by
  refine EntryOK.of_paths (fn := Try.f4) follows_ok Try.func4 (by kernel_rfl) (by kernel_rfl) ?_
  intro args h k out hF
  unfold F4 at hF
  split at hF
  · obtain ⟨hb, hF2⟩ := bif_t hF
    obtain rfl := chk_iff.1 hb
    rename_i n a b f N gs
    refine ⟨_, _, hF2, fun _ => ?_⟩
    by_cases hn : 1 ≤ n ∧ n ≤ 15
    · by_cases hN : (N : Int) > 100
      · exact ⟨S4t.on [(35, false), (39, true)], L4, S4t_ok, loops4, p4L n a b f N gs hn hN⟩
      · refine ⟨S4t.on [(39, false), (101, false)], L4, S4t_ok, loops4, ?_⟩
        rw [p4 n a b f N gs hn hN ⟨rfl, rfl, rfl, hn.1, hn.2, by omega⟩ ⟨by omega, by omega⟩ (by omega) ⟨by omega, by omega, rfl, rfl, rfl, by omega⟩ ⟨Nat.le_add_left 1 1, by rw [show pushW 3 [a] f = [a, f] from rfl]; simp, rfl, rfl, rfl, by rw [show pushW 3 [a] f = [a, f] from rfl]; simp⟩]
        have := mid_three a f b
        rw [show pushW 3 (pushW 3 [a] f) b = [a, f, b] from rfl]
        rw [decide_eq_true (show mid [a, f, b] ≥ if b < a then b else a by have := this.1; rw [Int.min_def] at this; split <;> split at this <;> omega), decide_eq_true (show mid [a, f, b] ≤ if b > a then b else a by have := this.2; rw [Int.max_def] at this; split <;> split at this <;> omega)]
        rfl
    · exact ⟨S4e.on [(39, true)], L4, S4e_ok, loops4, p4E n a b f N gs hn⟩
  · cases hF
theorem top4 {n a b f : Int} {N : Nat} {gs : List Int} {k : Value → Heap → Out} : F4 [w63 n, sl 0 N 2, w63 a, w63 b, w63 f] [rB false N gs] k = k (.bool true) [rB false N gs] := by
  show (bif chk (N = N) then _ else _) = _
  rw [chk_iff.2 rfl]
  rfl
end Go.Proofs.Ythdeanljgdjbhaa.VC
