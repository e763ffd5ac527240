/- MedianPlays. -/
import Derived.Test.YthdeanljgdjbhaaMXB
import Derived.Test.YthdeanljgdjbhaaMX6
namespace Go.Proofs.Ythdeanljgdjbhaa.VC
open Go Go.Proofs

theorem loop3 (n r : Int) (N : Nat) (gs : List Int) (hn : 1 ≤ n) (hn2 : n ≤ 15) (hN : N ≤ 100) : ∀ (m i k o N' : Nat) (l : List Int), i + m = N → 1 ≤ k → (k : Int) ≤ n → l.length = N' → o + k ≤ N' →
    LoopT Try.prog Try.f3.ntmps 1 (loopOf Try.f3 0) (zipS live3 (st3 n r N i)) (hp3 n N k o N' gs (winL l o k) l) (.exit 0) (zipS live3 (st3 n r N N)) [rB false N gs, none, none, none, none]
  | 0, i, k, o, N', l, hi, h1, h2, h3, h4 => by
    obtain rfl : i = N := hi
    refine LoopT.weakE (LoopT.last (by simp) (CodeT.out (S := S3.on [(55, false)]) S3_ok loopsI3 (fun on out => p3x n r i k o N' gs (winL l o k) l on out))) (WeakS.ext (fun id blk h => ?_) (by simp))
    match id, h with
    | 0, h => exact h
    | 1, h => cases h
    | 2, h => cases h
    | 3, h => cases h
    | 4, h => cases h
  | m + 1, i, k, o, N', l, hi, h1, h2, h3, h4 => by
    have hw := winL_len (l := l) (o := o) (k := k) (by omega)
    by_cases hr : (i : Int) = r
    · refine LoopT.step (CodeT.on (S := S3.on [(55, true), (63, true), (80, false), (87, false), (118, false)]) S3_ok loopsI3 (fun on out => p3Br n r N i k o N' gs (winL l o k) l on out (by omega) (by omega) (by omega) (by omega)
        ⟨by omega, by omega, rfl, hw⟩ hr ⟨rfl, by omega⟩ hn rfl ⟨by omega, by omega, rfl, hw, rfl, h2⟩ ⟨by omega, by omega, rfl, rfl⟩ ⟨rfl, by omega, by omega, by omega⟩ rfl ⟨rfl, rfl, by omega, by omega, rfl⟩
        ⟨rfl, rfl, by omega, rfl, rfl, rfl, rfl, rfl, rfl, rfl, by omega⟩)) ?_
      exact loop3 n r N gs hn hn2 hN m (i + 1) 1 0 1 [gs.getD i 0] (by omega) (by omega) (by omega) rfl (by omega)
    · have hp := pushW_len (x := gs.getD i 0) (show 1 ≤ (winL l o k).length by omega) (show ((winL l o k).length : Int) ≤ n by omega)
      have hq := pushW_win n (winL l o k) (gs.getD i 0) (by omega)
      rw [hw] at hq hp
      have e3 : (winL l o k ++ [gs.getD i 0]).length = k + 1 := by simp [hw]
      have hb : offW n k + (pushW n (winL l o k) (gs.getD i 0)).length ≤ k + 1 := by
        have h := congrArg List.length hq
        rw [winL, List.length_take, List.length_drop, e3] at h
        have : offW n k ≤ 1 := by unfold offW; cases decide ((k : Int) < n) <;> simp
        omega
      refine LoopT.step (CodeT.on (S := S3.on [(55, true), (63, false), (87, false), (118, false)]) S3_ok loopsI3 (fun on out => p3B n r N i k o N' gs (winL l o k) l on out (by omega) (by omega) (by omega) (by omega)
        ⟨by omega, by omega, rfl, hw⟩ hr ⟨by omega, by omega, rfl, hw, rfl, h2⟩ ⟨h3, h4, by omega, by omega, h2⟩ rfl ⟨by omega, by omega, rfl, rfl⟩ ⟨e3, hb, by omega, by omega⟩ (by rw [hq]) ⟨rfl, rfl, by omega, hb, hq.symm⟩
        ⟨rfl, rfl, by omega, rfl, rfl, rfl, rfl, rfl, rfl, rfl, by omega⟩)) ?_
      have := loop3 n r N gs hn hn2 hN m (i + 1) (pushW n (winL l o k) (gs.getD i 0)).length (offW n k) (k + 1) (winL l o k ++ [gs.getD i 0]) (by omega) (by omega) (by omega) e3 hb
      rw [hq] at this
      exact this
noncomputable def L3f : LF := fun vs h k => match vs, h with
  | [.bool false, .int .i64 n, .int .i64 r, .slice (some ⟨0, 0, none⟩) N 2, .int .i64 N2, .int .i64 0, .pointer (some ⟨1, 0, none⟩), .pointer (some ⟨2, 0, none⟩)],
    [some ⟨false, 1, [.ints .i64 N3 gs]⟩, some ⟨true, 2, [.ints .i64 1 [n2], .vals [.slice none 0 0]]⟩, some ⟨true, 2, [.ints .i64 1 [n3], .vals [.slice none 0 0]]⟩] =>
    bif chk (N2 = N ∧ N3 = N ∧ n2 = n ∧ n3 = n ∧ 1 ≤ n ∧ n ≤ 15 ∧ N ≤ 100) then
      bif Nat.beq N 0 then k (.exit 0) (st3N n r N N) [rB false N gs, none, none] else k (.exit 0) (st3 n r N N) [rB false N gs, none, none, none, none] else none
  | _, _ => none
noncomputable def L3 : LSpec := oneL 10 live3 L3f
theorem loopOK3 : LoopOK Try.prog Try.f3.ntmps 1 (loopOf Try.f3 0) live3 L3f := by
  refine LoopOK.of_T ?_
  intro vs h k out hk
  unfold L3f at hk
  split at hk
  · obtain ⟨hb, hk2⟩ := bif_t hk
    obtain ⟨rfl, rfl, rfl, rfl, h1, h2, h3⟩ := chk_iff.1 hb
    rename_i r N gs n
    cases N with
    | zero =>
      refine ⟨_, _, _, hk2, fun _ => ?_⟩
      refine LoopT.weakE (LoopT.last (by simp) (CodeT.out (S := S3.on [(55, false)]) S3_ok loopsI3 (fun on out => p3xN _ r 0 gs on out))) (WeakS.ext (fun id blk h => ?_) (by simp))
      match id, h with
      | 0, h => exact h
      | 1, h => cases h
      | 2, h => cases h
    | succ N =>
      refine ⟨_, _, _, hk2, fun _ => ?_⟩
      by_cases hr : ((0 : Nat) : Int) = r
      · exact LoopT.step (CodeT.on (S := S3.on [(55, true), (63, true), (80, false), (87, false), (118, false)]) S3_ok loopsI3 (fun on out => p3Ar _ r (N + 1) 0 gs on out (by omega) (by omega) (by omega) (by omega) hr h1 rfl
          ⟨by omega, by omega, rfl, rfl⟩ ⟨rfl, by omega, by omega, by omega⟩ rfl ⟨rfl, rfl, by omega, by omega, rfl⟩ ⟨rfl, rfl, by omega, rfl, rfl, rfl, rfl, rfl, rfl, rfl, by omega⟩))
          (loop3 _ r (N + 1) gs h1 h2 h3 N 1 1 0 1 [gs.getD 0 0] (by omega) (by omega) (by omega) rfl (by omega))
      · exact LoopT.step (CodeT.on (S := S3.on [(55, true), (63, false), (87, false), (118, false)]) S3_ok loopsI3 (fun on out => p3A _ r (N + 1) 0 gs on out (by omega) (by omega) (by omega) (by omega) hr h1 rfl
          ⟨by omega, by omega, rfl, rfl⟩ ⟨rfl, by omega, by omega, by omega⟩ rfl ⟨rfl, rfl, by omega, by omega, rfl⟩ ⟨rfl, rfl, by omega, rfl, rfl, rfl, rfl, rfl, rfl, rfl, by omega⟩))
          (loop3 _ r (N + 1) gs h1 h2 h3 N 1 1 0 1 [gs.getD 0 0] (by omega) (by omega) (by omega) rfl (by omega))
  · cases hk
theorem loops3 : LoopsOK Try.prog L3 Try.f3.ntmps 1 (bodyOf Try.f3) := loops_one rfl (by kernel_rfl) loopOK3
noncomputable def S3t : Spec := mkS [(8, false, FKnwT), (9, false, FNew)]
noncomputable def S3e : Spec := mkS [(8, false, FKnwT), (9, false, FNewE)]
theorem S3t_ok : SpecOK Try.prog S3t := mkS_cons okKnw (mkS_cons okNew (mkS_nil _))
theorem S3e_ok : SpecOK Try.prog S3e := mkS_cons okKnw (mkS_cons okNewE (mkS_nil _))
--CP p3L (n r : Int) (N : Nat) (gs : List Int) :: fnK Try.prog (S3t.on [(21, true)]) L3 Try.f3 [w63 n, sl 0 N 2, w63 r] [rB false N gs]
theorem p3L (n r : Int) (N : Nat) (gs : List Int)
    (h1 : (↑N : Int) > (100 : Int) := by first | omega | assumption | rfl) : fnK Try.prog (S3t.on [(21, true)]) L3 Try.f3 [w63 n, sl 0 N 2, w63 r] [rB false N gs] =
     (some (Res.ret (Value.bool true) [some (Blk.mk false (1 : Nat) [Seg.ints IntKind.i64 N gs])])) :=
  Eq.trans (by kernel_rfl) (go_t (dec_t h1) rfl)
--CFEND
--CP p3E (n r : Int) (N : Nat) (gs : List Int) :: fnK Try.prog (S3e.on [(21, false), (33, true)]) L3 Try.f3 [w63 n, sl 0 N 2, w63 r] [rB false N gs]
theorem p3E (n r : Int) (N : Nat) (gs : List Int)
    (h1 : ¬(↑N : Int) > (100 : Int) := by first | omega | assumption | rfl)
    (h2 : ¬((1 : Int) ≤ n ∧ n ≤ (15 : Int)) := by first | omega | assumption | rfl | ((repeat' with_reducible apply And.intro) <;> first | rfl | assumption | omega)) : fnK Try.prog (S3e.on [(21, false), (33, true)]) L3 Try.f3 [w63 n, sl 0 N 2, w63 r] [rB false N gs] =
     (bif decide (n < (1 : Int)) then some (Res.ret (Value.bool true) [some (Blk.mk false (1 : Nat) [Seg.ints IntKind.i64 N gs])]) else bif decide (n > (15 : Int)) then some (Res.ret (Value.bool true)
     [some (Blk.mk false (1 : Nat) [Seg.ints IntKind.i64 N gs])]) else none) :=
  Eq.trans (by kernel_rfl) (go_f (dec_f h1) (go_t (chk_t h2) rfl))
--CFEND
--CP p3 (n r : Int) (N : Nat) (gs : List Int) :: fnK Try.prog (S3t.on [(21, false), (33, false), (48, false)]) L3 Try.f3 [w63 n, sl 0 N 2, w63 r] [rB false N gs]
theorem p3 (n r : Int) (N : Nat) (gs : List Int)
    (h1 : ¬(↑N : Int) > (100 : Int) := by first | omega | assumption | rfl)
    (h2 : (1 : Int) ≤ n ∧ n ≤ (15 : Int) := by first | omega | assumption | rfl | ((repeat' with_reducible apply And.intro) <;> first | rfl | assumption | omega))
    (h3 : ¬n < (1 : Int) := by first | omega | assumption | rfl)
    (h4 : ¬n > (15 : Int) := by first | omega | assumption | rfl)
    (h5 : (↑N : Int) = (↑N : Int) ∧ N = N ∧ n = n ∧ n = n ∧ (1 : Int) ≤ n ∧ n ≤ (15 : Int) ∧ N ≤ (100 : Nat) := by first | omega | assumption | rfl | ((repeat' with_reducible apply And.intro) <;> first | rfl | assumption | omega)) : fnK Try.prog (S3t.on [(21, false), (33, false), (48, false)]) L3 Try.f3 [w63 n, sl 0 N 2, w63 r] [rB false N gs] =
     (bif N.beq (0 : Nat) then some (Res.ret (Value.bool true) [some (Blk.mk false (1 : Nat) [Seg.ints IntKind.i64 N gs])]) else some (Res.ret (Value.bool true) [some (Blk.mk false (1 : Nat) [Seg.ints
     IntKind.i64 N gs])])) :=
  Eq.trans (b :=
     bif decide ((↑N : Int) > (100 : Int)) then none else bif chk ((1 : Int) ≤ n ∧ n ≤ (15 : Int)) then bif decide (n < (1 : Int)) then none else bif decide (n > (15 : Int)) then none else bif chk ((↑N :
     Int) = (↑N : Int) ∧ N = N ∧ n = n ∧ n = n ∧ (1 : Int) ≤ n ∧ n ≤ (15 : Int) ∧ N ≤ (100 : Nat)) then bif N.beq (OfNat.ofNat (0 : Nat)) then some (Res.ret (Value.bool true) [some (Blk.mk false (1 : Nat)
     [Seg.ints IntKind.i64 N gs])]) else some (Res.ret (Value.bool true) [some (Blk.mk false (1 : Nat) [Seg.ints IntKind.i64 N gs])]) else none else none) (by kernel_rfl) (by exact (go_f (dec_f h1) (go_t (chk_t h2) (go_f (dec_f h3) (go_f (dec_f h4) (go_t (chk_t h5) rfl))))))
--CFEND
noncomputable def F3 : FSpec := fun args h k => match args, h with
  | [.int .i64 _, .slice (some ⟨0, 0, none⟩) N 2, .int .i64 _], [some ⟨false, 1, [.ints .i64 N2 gs]⟩] => bif chk (N2 = N) then k (.bool true) [rB false N gs] else none
  | _, _ => none
theorem ok3 : EntryOK Try.prog 3 F3 := by
  refine EntryOK.of_paths (fn := Try.f3) follows_ok Try.func3 (by kernel_rfl) (by kernel_rfl) ?_
  intro args h k out hF
  unfold F3 at hF
  split at hF
  · obtain ⟨hb, hF2⟩ := bif_t hF
    obtain rfl := chk_iff.1 hb
    rename_i n r N gs
    refine ⟨_, _, hF2, fun _ => ?_⟩
    by_cases hN : (N : Int) > 100
    · exact ⟨S3t.on [(21, true)], L3, S3t_ok, loops3, p3L n r N gs hN⟩
    · by_cases hn : 1 ≤ n ∧ n ≤ 15
      · refine ⟨S3t.on [(21, false), (33, false), (48, false)], L3, S3t_ok, loops3, ?_⟩
        rw [p3 n r N gs hN hn (by omega) (by omega) ⟨rfl, rfl, rfl, rfl, hn.1, hn.2, by omega⟩]
        cases Nat.beq N 0 <;> rfl
      · refine ⟨S3e.on [(21, false), (33, true)], L3, S3e_ok, loops3, ?_⟩
        rw [p3E n r N gs hN hn]
        by_cases h : n < 1
        · rw [decide_eq_true h]; rfl
        · rw [decide_eq_false h, decide_eq_true (show n > 15 by omega)]; rfl
  · cases hF
theorem top3 {n r : Int} {N : Nat} {gs : List Int} {k : Value → Heap → Out} : F3 [w63 n, sl 0 N 2, w63 r] [rB false N gs] k = k (.bool true) [rB false N gs] := by
  show (bif chk (N = N) then _ else _) = _
  rw [chk_iff.2 rfl]
  rfl
end Go.Proofs.Ythdeanljgdjbhaa.VC
