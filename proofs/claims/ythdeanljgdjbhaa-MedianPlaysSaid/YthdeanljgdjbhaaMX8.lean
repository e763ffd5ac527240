/- The document's middle one, and its window. -/
import Derived.Test.YthdeanljgdjbhaaMX7
namespace Go.Proofs.Ythdeanljgdjbhaa.VC
open Go Go.Proofs

noncomputable def fin16 (o k c : Nat) (N : Nat) (l : List Int) : Nat := Classical.epsilon fun i' : Nat => LoopT Try.prog Try.f16.ntmps 1 (loopOf Try.f16 0) (zipS live16 (st16 o k c (((k - 1) / 2 : Nat) : Int) 0)) [rB false N l] .ret
      (zipS live16 [w63 (mid (winL l o k)), slW 0 o k c, w63 (((k - 1) / 2 : Nat) : Int), w63 i']) [rB false N l]
noncomputable def L16f : LF := fun vs h k => match vs, h with
  | [.int .i64 0, .slice (some ⟨0, o, none⟩) m c, .int .i64 t, .int .i64 0], [some ⟨false, 1, [.ints .i64 N l]⟩] =>
    bif chk (l.length = N ∧ o + m ≤ N ∧ m ≤ 1000 ∧ 1 ≤ m ∧ t = (((m - 1) / 2 : Nat) : Int)) then
      k .ret [w63 (mid (winL l o m)), slW 0 o m c, w63 (((m - 1) / 2 : Nat) : Int), w63 (fin16 o m c N l : Nat)] [rB false N l] else none
  | _, _ => none
noncomputable def L16 : LSpec := oneL 3 live16 L16f
theorem loopOK16 : LoopOK Try.prog Try.f16.ntmps 1 (loopOf Try.f16 0) live16 L16f := by
  refine LoopOK.of_T ?_
  intro vs h k out hk
  unfold L16f at hk
  split at hk
  · obtain ⟨hb, hk2⟩ := bif_t hk
    obtain ⟨h1, h2, h3, h4, rfl⟩ := chk_iff.1 hb
    rename_i o m c N l
    refine ⟨_, _, _, hk2, fun _ => ?_⟩
    exact Classical.epsilon_spec (p := fun i' : Nat => LoopT Try.prog Try.f16.ntmps 1 (loopOf Try.f16 0) (zipS live16 (st16 o m c (((m - 1) / 2 : Nat) : Int) 0)) [rB false N l] .ret
      (zipS live16 [w63 (mid (winL l o m)), slW 0 o m c, w63 (((m - 1) / 2 : Nat) : Int), w63 i']) [rB false N l]) (loop16 o m c N l h1 h2 h4 h3 m 0 (by omega) (fun j hj => by omega))
  · cases hk
theorem loops16 : LoopsOK Try.prog L16 Try.f16.ntmps 1 (bodyOf Try.f16) := loops_one rfl (by kernel_rfl) loopOK16
--CP p16 (o k c N : Nat) (l : List Int) :: fnK Try.prog (mkS []) L16 Try.f16 [slW 0 o k c] [rB false N l]
theorem p16 (o k c N : Nat) (l : List Int)
    (w1 : -9223372036854775808 ≤ (↑k : Int) - (1 : Int) ∧ (↑k : Int) - (1 : Int) ≤ 9223372036854775807 := by omega)
    (w2 : -9223372036854775808 ≤ ((↑k : Int) - (1 : Int)).tdiv (2 : Int) ∧ ((↑k : Int) - (1 : Int)).tdiv (2 : Int) ≤ 9223372036854775807 := by omega)
    (h1 : l.length = N ∧ o + k ≤ N ∧ k ≤ (1000 : Nat) ∧ (1 : Nat) ≤ k ∧ ((↑k : Int) - (1 : Int)).tdiv (2 : Int) = (↑((k - (1 : Nat)) / (2 : Nat)) : Int) := by first | omega | assumption | rfl | ((repeat' with_reducible apply And.intro) <;> first | rfl | assumption | omega)) : fnK Try.prog (mkS []) L16 Try.f16 [slW 0 o k c] [rB false N l] =
     (some (Res.ret (Value.int IntKind.i64 (mid (winL l o k))) [some (Blk.mk false (1 : Nat) [Seg.ints IntKind.i64 N l])])) :=
  Eq.trans (b :=
     bif chk (l.length = N ∧ o + k ≤ N ∧ k ≤ (1000 : Nat) ∧ (1 : Nat) ≤ k ∧ IntKind.i64.wrap ((IntKind.i64.wrap ((↑k : Int) - (1 : Int))).tdiv (2 : Int)) = (↑((k - (1 : Nat)) / (2 : Nat)) : Int)) then some
     (Res.ret (Value.int IntKind.i64 (mid (winL l o k))) [some (Blk.mk false (1 : Nat) [Seg.ints IntKind.i64 N l])]) else none) (by kernel_rfl) (by simp only [-eq_self, swrap w1.1 w1.2, swrap w2.1 w2.2]; exact (go_t (chk_t h1) rfl))
--CFEND
end Go.Proofs.Ythdeanljgdjbhaa.VC
