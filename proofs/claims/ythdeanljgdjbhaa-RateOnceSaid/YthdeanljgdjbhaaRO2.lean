/- The table of clients: the page's example. -/
import Derived.Test.YthdeanljgdjbhaaRO1
namespace Go.Proofs.Ythdeanljgdjbhaa.VC
open Go Go.Proofs

noncomputable def FTNew : FSpec := fun args h k => match args, h with
  | [.int .i64 g], [] => bif chk (1000000000 ≤ g ∧ g ≤ 100000000000) then k (.tuple ⟨[pt 0, w63 0]⟩) [tB true g (-9223372036854775808) 1, mpB true []] else none
  | _, _ => none
theorem okTNew : EntryOK Try.prog 19 FTNew := by
  refine EntryOK.of_paths (fn := Try.f19) follows_ok Try.func19 (by kernel_rfl) (by kernel_rfl) ?_
  intro args h k out hF
  unfold FTNew at hF
  split at hF
  · obtain ⟨hb, hF2⟩ := bif_t hF
    obtain ⟨h1, h2⟩ := chk_iff.1 hb
    rename_i g
    exact ⟨_, _, hF2, fun _ => ⟨(mkS []).on [(9, false)], noL, mk0, noL_ok, cTNew g (by omega) (by omega)⟩⟩
  · cases hF
--CP cTNewE (g : Int) :: fnK Try.prog ((mkS []).on [(9, true)]) noL Try.f19 [w63 g] []
theorem cTNewE (g : Int) : fnK Try.prog ((mkS []).on [(9, true)]) noL Try.f19 [w63 g] [] =
     (bif decide (g < (1000000000 : Int)) then some (Res.ret (Value.tuple (Array.mk [Value.pointer none, Value.int IntKind.i64 (2 : Int)])) []) else bif decide (g > (100000000000 : Int)) then some (Res.ret
     (Value.tuple (Array.mk [Value.pointer none, Value.int IntKind.i64 (2 : Int)])) []) else none) :=
  Eq.trans (by kernel_rfl) rfl
--CFEND
noncomputable def FTNewE : FSpec := fun args h k => match args, h with
  | [.int .i64 g], [] => bif chk (¬ (1000000000 ≤ g ∧ g ≤ 100000000000)) then k (.tuple ⟨[.pointer none, w63 2]⟩) [] else none
  | _, _ => none
theorem okTNewE : EntryOK Try.prog 19 FTNewE := by
  refine EntryOK.of_paths (fn := Try.f19) follows_ok Try.func19 (by kernel_rfl) (by kernel_rfl) ?_
  intro args h k out hF
  unfold FTNewE at hF
  split at hF
  · obtain ⟨hb, hF2⟩ := bif_t hF
    have hn := chk_iff.1 hb
    rename_i g
    refine ⟨_, _, hF2, fun _ => ⟨(mkS []).on [(9, true)], noL, mk0, noL_ok, ?_⟩⟩
    rw [cTNewE]
    by_cases h : g < 1000000000
    · rw [decide_eq_true h]; rfl
    · rw [decide_eq_false h, decide_eq_true (show g > 100000000000 by omega)]; rfl
  · cases hF
def live18 : List Nat := [0, 1, 3, 22, 23]
abbrev tab18 : Value := .agg #[w63 0, .int .u8 1, w63 5, .int .u8 2, w63 6, .int .u8 0, w63 1000000000, .int .u8 1, w63 1000000001, .int .u8 0, w63 1000000006, .int .u8 2]
abbrev aB : Option Blk := some ⟨true, 5, [.ints .u8 4 [0, 0, 0, 0], .ints .u16 1 [0]]⟩
abbrev st18 (i : Int) : List Value := [.bool false, pt 0, pt 2, tab18, w63 i]
abbrev hp18 (z a r k : Int) (d : Bool) : Heap := [tB true 1000000000 z 1, mpB true [(addrV 0, clV a r k d)], aB]
noncomputable def S18a : Spec := mkS [(21, true, FAskA)]
noncomputable def S18 (v : Int) : Spec := mkS [(21, true, FAskO v)]
--CP p18a (on : List Value → Heap → Out) (out : Exit → List Value → Heap → Out) :: roundK Try.prog ((S18a.on [(24, true), (33, false)]).calm [(8, [1, 3, 6], [2, 3])]) noL Try.f18.ntmps 0 (loopOf Try.f18 0) live18 (st18 0) [tB true 1000000000 (-9223372036854775808) 1, mpB true [], aB] on out
theorem p18a (on : List Value → Heap → Out) (out : Exit → List Value → Heap → Out)
    (h1 : true = true ∧ true = true ∧ (0 : Nat) < (64 : Nat) ∧ (-9223372036854775808 : Int) ≤ (0 : Int) := by first | omega | assumption | rfl | ((repeat' with_reducible apply And.intro) <;> first | rfl | assumption | omega)) : roundK Try.prog ((S18a.on [(24, true), (33, false)]).calm [(8, [1, 3, 6], [2, 3])]) noL Try.f18.ntmps 0 (loopOf Try.f18 0) live18 (st18 0) [tB true 1000000000 (-9223372036854775808) 1, mpB true [], aB] on out =
     (on [Value.bool false, Value.pointer (some (Addr.mk (0 : Nat) (0 : Nat) none)), Value.pointer (some (Addr.mk (2 : Nat) (0 : Nat) none)), Value.agg #[Value.int IntKind.i64 (0 : Int), Value.int
     IntKind.u8 (1 : Int), Value.int IntKind.i64 (5 : Int), Value.int IntKind.u8 (2 : Int), Value.int IntKind.i64 (6 : Int), Value.int IntKind.u8 (0 : Int), Value.int IntKind.i64 (1000000000 : Int),
     Value.int IntKind.u8 (1 : Int), Value.int IntKind.i64 (1000000001 : Int), Value.int IntKind.u8 (0 : Int), Value.int IntKind.i64 (1000000006 : Int), Value.int IntKind.u8 (2 : Int)], Value.int
     IntKind.i64 (1 : Int)] [some (Blk.mk true (3 : Nat) [Seg.ints IntKind.i64 (2 : Nat) [(1000000000 : Int), (0 : Int)], Seg.vals [Value.map (some (1 : Nat))]]), some (Blk.mk true (0 : Nat) [Seg.mp true
     ([] ++ [(addrV (0 : Int), clV (0 : Int) (0 : Int) (0 : Int) false)])]), some (Blk.mk true (5 : Nat) [Seg.ints IntKind.u8 (4 : Nat) [(0 : Int), (0 : Int), (0 : Int), (0 : Int)], Seg.ints IntKind.u16 (1
     : Nat) [(0 : Int)]])]) :=
  Eq.trans (by kernel_rfl) (go_t (chk_t h1) rfl)
--CFEND
--CP p18b (on : List Value → Heap → Out) (out : Exit → List Value → Heap → Out) :: roundK Try.prog (((S18 2).on [(24, true), (33, false)]).calm [(8, [1, 3, 6], [2, 3])]) noL Try.f18.ntmps 0 (loopOf Try.f18 0) live18 (st18 1) (hp18 0 0 0 0 false) on out
theorem p18b (on : List Value → Heap → Out) (out : Exit → List Value → Heap → Out)
    (h1 : (0 : Int) = (0 : Int) ∧ true = true ∧ (0 : Int) ≤ (5 : Int) ∧ (0 : Int) ≤ (0 : Int) ∧ (0 : Int) ≤ (5 : Int) ∧ (0 : Int) ≤ (0 : Int) ∧ (0 : Int) ≤ (5 : Int) ∧ (5 : Int) ≤ (4611686018427387904 : Int) ∧ (0 : Int) ≤ (1000000000 : Int) ∧ (1000000000 : Int) ≤ (4611686018427387904 : Int) ∧ (2 : Int) = (2 : Int) := by first | omega | assumption | rfl | ((repeat' with_reducible apply And.intro) <;> first | rfl | assumption | omega)) : roundK Try.prog (((S18 2).on [(24, true), (33, false)]).calm [(8, [1, 3, 6], [2, 3])]) noL Try.f18.ntmps 0 (loopOf Try.f18 0) live18 (st18 1) (hp18 0 0 0 0 false) on out =
     (on [Value.bool false, Value.pointer (some (Addr.mk (0 : Nat) (0 : Nat) none)), Value.pointer (some (Addr.mk (2 : Nat) (0 : Nat) none)), Value.agg #[Value.int IntKind.i64 (0 : Int), Value.int
     IntKind.u8 (1 : Int), Value.int IntKind.i64 (5 : Int), Value.int IntKind.u8 (2 : Int), Value.int IntKind.i64 (6 : Int), Value.int IntKind.u8 (0 : Int), Value.int IntKind.i64 (1000000000 : Int),
     Value.int IntKind.u8 (1 : Int), Value.int IntKind.i64 (1000000001 : Int), Value.int IntKind.u8 (0 : Int), Value.int IntKind.i64 (1000000006 : Int), Value.int IntKind.u8 (2 : Int)], Value.int
     IntKind.i64 (2 : Int)] [some (Blk.mk true (3 : Nat) [Seg.ints IntKind.i64 (2 : Nat) [(1000000000 : Int), (5 : Int)], Seg.vals [Value.map (some (1 : Nat))]]), some (Blk.mk true (0 : Nat) [Seg.mp true
     [(addrV (0 : Int), clV (5 : Int) (0 : Int) (5 : Int) true)]]), some (Blk.mk true (5 : Nat) [Seg.ints IntKind.u8 (4 : Nat) [(0 : Int), (0 : Int), (0 : Int), (0 : Int)], Seg.ints IntKind.u16 (1 : Nat)
     [(0 : Int)]])]) :=
  Eq.trans (by kernel_rfl) (go_t (chk_t h1) rfl)
--CFEND
--CP p18c (on : List Value → Heap → Out) (out : Exit → List Value → Heap → Out) :: roundK Try.prog (((S18 0).on [(24, true), (33, false)]).calm [(8, [1, 3, 6], [2, 3])]) noL Try.f18.ntmps 0 (loopOf Try.f18 0) live18 (st18 2) (hp18 5 5 0 5 true) on out
theorem p18c (on : List Value → Heap → Out) (out : Exit → List Value → Heap → Out)
    (h1 : (0 : Int) = (0 : Int) ∧ true = true ∧ (5 : Int) ≤ (6 : Int) ∧ (0 : Int) ≤ (0 : Int) ∧ (0 : Int) ≤ (6 : Int) ∧ (0 : Int) ≤ (5 : Int) ∧ (5 : Int) ≤ (6 : Int) ∧ (6 : Int) ≤ (4611686018427387904 : Int) ∧ (0 : Int) ≤ (1000000000 : Int) ∧ (1000000000 : Int) ≤ (4611686018427387904 : Int) ∧ (0 : Int) = (0 : Int) := by first | omega | assumption | rfl | ((repeat' with_reducible apply And.intro) <;> first | rfl | assumption | omega)) : roundK Try.prog (((S18 0).on [(24, true), (33, false)]).calm [(8, [1, 3, 6], [2, 3])]) noL Try.f18.ntmps 0 (loopOf Try.f18 0) live18 (st18 2) (hp18 5 5 0 5 true) on out =
     (on [Value.bool false, Value.pointer (some (Addr.mk (0 : Nat) (0 : Nat) none)), Value.pointer (some (Addr.mk (2 : Nat) (0 : Nat) none)), Value.agg #[Value.int IntKind.i64 (0 : Int), Value.int
     IntKind.u8 (1 : Int), Value.int IntKind.i64 (5 : Int), Value.int IntKind.u8 (2 : Int), Value.int IntKind.i64 (6 : Int), Value.int IntKind.u8 (0 : Int), Value.int IntKind.i64 (1000000000 : Int),
     Value.int IntKind.u8 (1 : Int), Value.int IntKind.i64 (1000000001 : Int), Value.int IntKind.u8 (0 : Int), Value.int IntKind.i64 (1000000006 : Int), Value.int IntKind.u8 (2 : Int)], Value.int
     IntKind.i64 (3 : Int)] [some (Blk.mk true (3 : Nat) [Seg.ints IntKind.i64 (2 : Nat) [(1000000000 : Int), (6 : Int)], Seg.vals [Value.map (some (1 : Nat))]]), some (Blk.mk true (0 : Nat) [Seg.mp true
     [(addrV (0 : Int), clV (6 : Int) (0 : Int) (5 : Int) true)]]), some (Blk.mk true (5 : Nat) [Seg.ints IntKind.u8 (4 : Nat) [(0 : Int), (0 : Int), (0 : Int), (0 : Int)], Seg.ints IntKind.u16 (1 : Nat)
     [(0 : Int)]])]) :=
  Eq.trans (by kernel_rfl) (go_t (chk_t h1) rfl)
--CFEND
--CP p18d (on : List Value → Heap → Out) (out : Exit → List Value → Heap → Out) :: roundK Try.prog (((S18 1).on [(24, true), (33, false)]).calm [(8, [1, 3, 6], [2, 3])]) noL Try.f18.ntmps 0 (loopOf Try.f18 0) live18 (st18 3) (hp18 6 6 0 5 true) on out
theorem p18d (on : List Value → Heap → Out) (out : Exit → List Value → Heap → Out)
    (h1 : (0 : Int) = (0 : Int) ∧ true = true ∧ (6 : Int) ≤ (1000000000 : Int) ∧ (0 : Int) ≤ (0 : Int) ∧ (0 : Int) ≤ (1000000000 : Int) ∧ (0 : Int) ≤ (5 : Int) ∧ (5 : Int) ≤ (1000000000 : Int) ∧ (1000000000 : Int) ≤ (4611686018427387904 : Int) ∧ (0 : Int) ≤ (1000000000 : Int) ∧ (1000000000 : Int) ≤ (4611686018427387904 : Int) ∧ (1 : Int) = (1 : Int) := by first | omega | assumption | rfl | ((repeat' with_reducible apply And.intro) <;> first | rfl | assumption | omega)) : roundK Try.prog (((S18 1).on [(24, true), (33, false)]).calm [(8, [1, 3, 6], [2, 3])]) noL Try.f18.ntmps 0 (loopOf Try.f18 0) live18 (st18 3) (hp18 6 6 0 5 true) on out =
     (on [Value.bool false, Value.pointer (some (Addr.mk (0 : Nat) (0 : Nat) none)), Value.pointer (some (Addr.mk (2 : Nat) (0 : Nat) none)), Value.agg #[Value.int IntKind.i64 (0 : Int), Value.int
     IntKind.u8 (1 : Int), Value.int IntKind.i64 (5 : Int), Value.int IntKind.u8 (2 : Int), Value.int IntKind.i64 (6 : Int), Value.int IntKind.u8 (0 : Int), Value.int IntKind.i64 (1000000000 : Int),
     Value.int IntKind.u8 (1 : Int), Value.int IntKind.i64 (1000000001 : Int), Value.int IntKind.u8 (0 : Int), Value.int IntKind.i64 (1000000006 : Int), Value.int IntKind.u8 (2 : Int)], Value.int
     IntKind.i64 (4 : Int)] [some (Blk.mk true (3 : Nat) [Seg.ints IntKind.i64 (2 : Nat) [(1000000000 : Int), (1000000000 : Int)], Seg.vals [Value.map (some (1 : Nat))]]), some (Blk.mk true (0 : Nat)
     [Seg.mp true [(addrV (0 : Int), clV (1000000000 : Int) (1000000000 : Int) (5 : Int) true)]]), some (Blk.mk true (5 : Nat) [Seg.ints IntKind.u8 (4 : Nat) [(0 : Int), (0 : Int), (0 : Int), (0 : Int)],
     Seg.ints IntKind.u16 (1 : Nat) [(0 : Int)]])]) :=
  Eq.trans (by kernel_rfl) (go_t (chk_t h1) rfl)
--CFEND
--CP p18e (on : List Value → Heap → Out) (out : Exit → List Value → Heap → Out) :: roundK Try.prog (((S18 0).on [(24, true), (33, false)]).calm [(8, [1, 3, 6], [2, 3])]) noL Try.f18.ntmps 0 (loopOf Try.f18 0) live18 (st18 4) (hp18 1000000000 1000000000 1000000000 5 true) on out
theorem p18e (on : List Value → Heap → Out) (out : Exit → List Value → Heap → Out)
    (h1 : (0 : Int) = (0 : Int) ∧ true = true ∧ (1000000000 : Int) ≤ (1000000001 : Int) ∧ (0 : Int) ≤ (1000000000 : Int) ∧ (1000000000 : Int) ≤ (1000000001 : Int) ∧ (0 : Int) ≤ (5 : Int) ∧ (5 : Int) ≤ (1000000001 : Int) ∧ (1000000001 : Int) ≤ (4611686018427387904 : Int) ∧ (0 : Int) ≤ (1000000000 : Int) ∧ (1000000000 : Int) ≤ (4611686018427387904 : Int) ∧ (0 : Int) = (0 : Int) := by first | omega | assumption | rfl | ((repeat' with_reducible apply And.intro) <;> first | rfl | assumption | omega)) : roundK Try.prog (((S18 0).on [(24, true), (33, false)]).calm [(8, [1, 3, 6], [2, 3])]) noL Try.f18.ntmps 0 (loopOf Try.f18 0) live18 (st18 4) (hp18 1000000000 1000000000 1000000000 5 true) on out =
     (on [Value.bool false, Value.pointer (some (Addr.mk (0 : Nat) (0 : Nat) none)), Value.pointer (some (Addr.mk (2 : Nat) (0 : Nat) none)), Value.agg #[Value.int IntKind.i64 (0 : Int), Value.int
     IntKind.u8 (1 : Int), Value.int IntKind.i64 (5 : Int), Value.int IntKind.u8 (2 : Int), Value.int IntKind.i64 (6 : Int), Value.int IntKind.u8 (0 : Int), Value.int IntKind.i64 (1000000000 : Int),
     Value.int IntKind.u8 (1 : Int), Value.int IntKind.i64 (1000000001 : Int), Value.int IntKind.u8 (0 : Int), Value.int IntKind.i64 (1000000006 : Int), Value.int IntKind.u8 (2 : Int)], Value.int
     IntKind.i64 (5 : Int)] [some (Blk.mk true (3 : Nat) [Seg.ints IntKind.i64 (2 : Nat) [(1000000000 : Int), (1000000001 : Int)], Seg.vals [Value.map (some (1 : Nat))]]), some (Blk.mk true (0 : Nat)
     [Seg.mp true [(addrV (0 : Int), clV (1000000001 : Int) (1000000000 : Int) (5 : Int) true)]]), some (Blk.mk true (5 : Nat) [Seg.ints IntKind.u8 (4 : Nat) [(0 : Int), (0 : Int), (0 : Int), (0 : Int)],
     Seg.ints IntKind.u16 (1 : Nat) [(0 : Int)]])]) :=
  Eq.trans (by kernel_rfl) (go_t (chk_t h1) rfl)
--CFEND
--CP p18f (on : List Value → Heap → Out) (out : Exit → List Value → Heap → Out) :: roundK Try.prog (((S18 2).on [(24, true), (33, false)]).calm [(8, [1, 3, 6], [2, 3])]) noL Try.f18.ntmps 0 (loopOf Try.f18 0) live18 (st18 5) (hp18 1000000001 1000000001 1000000000 5 true) on out
theorem p18f (on : List Value → Heap → Out) (out : Exit → List Value → Heap → Out)
    (h1 : (0 : Int) = (0 : Int) ∧ true = true ∧ (1000000001 : Int) ≤ (1000000006 : Int) ∧ (0 : Int) ≤ (1000000000 : Int) ∧ (1000000000 : Int) ≤ (1000000006 : Int) ∧ (0 : Int) ≤ (5 : Int) ∧ (5 : Int) ≤ (1000000006 : Int) ∧ (1000000006 : Int) ≤ (4611686018427387904 : Int) ∧ (0 : Int) ≤ (1000000000 : Int) ∧ (1000000000 : Int) ≤ (4611686018427387904 : Int) ∧ (2 : Int) = (2 : Int) := by first | omega | assumption | rfl | ((repeat' with_reducible apply And.intro) <;> first | rfl | assumption | omega)) : roundK Try.prog (((S18 2).on [(24, true), (33, false)]).calm [(8, [1, 3, 6], [2, 3])]) noL Try.f18.ntmps 0 (loopOf Try.f18 0) live18 (st18 5) (hp18 1000000001 1000000001 1000000000 5 true) on out =
     (on [Value.bool false, Value.pointer (some (Addr.mk (0 : Nat) (0 : Nat) none)), Value.pointer (some (Addr.mk (2 : Nat) (0 : Nat) none)), Value.agg #[Value.int IntKind.i64 (0 : Int), Value.int
     IntKind.u8 (1 : Int), Value.int IntKind.i64 (5 : Int), Value.int IntKind.u8 (2 : Int), Value.int IntKind.i64 (6 : Int), Value.int IntKind.u8 (0 : Int), Value.int IntKind.i64 (1000000000 : Int),
     Value.int IntKind.u8 (1 : Int), Value.int IntKind.i64 (1000000001 : Int), Value.int IntKind.u8 (0 : Int), Value.int IntKind.i64 (1000000006 : Int), Value.int IntKind.u8 (2 : Int)], Value.int
     IntKind.i64 (6 : Int)] [some (Blk.mk true (3 : Nat) [Seg.ints IntKind.i64 (2 : Nat) [(1000000000 : Int), (1000000006 : Int)], Seg.vals [Value.map (some (1 : Nat))]]), some (Blk.mk true (0 : Nat)
     [Seg.mp true [(addrV (0 : Int), clV (1000000006 : Int) (1000000000 : Int) (1000000006 : Int) true)]]), some (Blk.mk true (5 : Nat) [Seg.ints IntKind.u8 (4 : Nat) [(0 : Int), (0 : Int), (0 : Int), (0 :
     Int)], Seg.ints IntKind.u16 (1 : Nat) [(0 : Int)]])]) :=
  Eq.trans (by kernel_rfl) (go_t (chk_t h1) rfl)
--CFEND
--CP p18x (on : List Value → Heap → Out) (out : Exit → List Value → Heap → Out) :: roundK Try.prog (S18a.on [(24, false)]) noL Try.f18.ntmps 0 (loopOf Try.f18 0) live18 (st18 6) (hp18 1000000006 1000000006 1000000000 1000000006 true) on out
theorem p18x (on : List Value → Heap → Out) (out : Exit → List Value → Heap → Out) : roundK Try.prog (S18a.on [(24, false)]) noL Try.f18.ntmps 0 (loopOf Try.f18 0) live18 (st18 6) (hp18 1000000006 1000000006 1000000000 1000000006 true) on out =
     (out (Exit.exit (0 : Nat)) [Value.bool false, Value.pointer (some (Addr.mk (0 : Nat) (0 : Nat) none)), Value.pointer (some (Addr.mk (2 : Nat) (0 : Nat) none)), Value.agg #[Value.int IntKind.i64 (0 :
     Int), Value.int IntKind.u8 (1 : Int), Value.int IntKind.i64 (5 : Int), Value.int IntKind.u8 (2 : Int), Value.int IntKind.i64 (6 : Int), Value.int IntKind.u8 (0 : Int), Value.int IntKind.i64
     (1000000000 : Int), Value.int IntKind.u8 (1 : Int), Value.int IntKind.i64 (1000000001 : Int), Value.int IntKind.u8 (0 : Int), Value.int IntKind.i64 (1000000006 : Int), Value.int IntKind.u8 (2 : Int)],
     Value.int IntKind.i64 (6 : Int)] [some (Blk.mk true (3 : Nat) [Seg.ints IntKind.i64 (2 : Nat) [(1000000000 : Int), (1000000006 : Int)], Seg.vals [Value.map (some (1 : Nat))]]), some (Blk.mk true (0 :
     Nat) [Seg.mp true [(addrV (0 : Int), clV (1000000006 : Int) (1000000000 : Int) (1000000006 : Int) true)]]), some (Blk.mk true (5 : Nat) [Seg.ints IntKind.u8 (4 : Nat) [(0 : Int), (0 : Int), (0 : Int),
     (0 : Int)], Seg.ints IntKind.u16 (1 : Nat) [(0 : Int)]])]) :=
  Eq.trans (by kernel_rfl) rfl
--CFEND
theorem S18a_ok : SpecOK Try.prog S18a := mkS_cons okAskA (mkS_nil _)
theorem S18_ok (v : Int) : SpecOK Try.prog (S18 v) := mkS_cons (okAskO v) (mkS_nil _)
noncomputable def L18f : LF := fun vs h k => match vs, h with
  | [.bool false, .pointer (some ⟨0, 0, none⟩), .pointer (some ⟨2, 0, none⟩), .agg ⟨[.int .i64 0, .int .u8 1, .int .i64 5, .int .u8 2, .int .i64 6, .int .u8 0, .int .i64 1000000000, .int .u8 1, .int .i64 1000000001, .int .u8 0, .int .i64 1000000006, .int .u8 2]⟩, .int .i64 0],
    [some ⟨true, 3, [.ints .i64 2 [1000000000, -9223372036854775808], .vals [.map (some 1)]]⟩, some ⟨true, 0, [.mp true []]⟩, some ⟨true, 5, [.ints .u8 4 [0, 0, 0, 0], .ints .u16 1 [0]]⟩] =>
    k (.exit 0) (st18 6) (hp18 1000000006 1000000006 1000000000 1000000006 true)
  | _, _ => none
noncomputable def L18 : LSpec := oneL 6 live18 L18f
theorem loopOK18 : LoopOK Try.prog Try.f18.ntmps 0 (loopOf Try.f18 0) live18 L18f := by
  refine LoopOK.of_T ?_
  intro vs h k out hk
  unfold L18f at hk
  split at hk
  · refine ⟨_, _, _, hk, fun _ => ?_⟩
    refine LoopT.step (CodeT.on (S := (S18a.on [(24, true), (33, false)]).calm [(8, [1, 3, 6], [2, 3])]) S18a_ok noL_ok (fun on out => p18a on out)) ?_
    refine LoopT.step (CodeT.on (S := ((S18 2).on [(24, true), (33, false)]).calm [(8, [1, 3, 6], [2, 3])]) (S18_ok 2) noL_ok (fun on out => p18b on out)) ?_
    refine LoopT.step (CodeT.on (S := ((S18 0).on [(24, true), (33, false)]).calm [(8, [1, 3, 6], [2, 3])]) (S18_ok 0) noL_ok (fun on out => p18c on out)) ?_
    refine LoopT.step (CodeT.on (S := ((S18 1).on [(24, true), (33, false)]).calm [(8, [1, 3, 6], [2, 3])]) (S18_ok 1) noL_ok (fun on out => p18d on out)) ?_
    refine LoopT.step (CodeT.on (S := ((S18 0).on [(24, true), (33, false)]).calm [(8, [1, 3, 6], [2, 3])]) (S18_ok 0) noL_ok (fun on out => p18e on out)) ?_
    refine LoopT.step (CodeT.on (S := ((S18 2).on [(24, true), (33, false)]).calm [(8, [1, 3, 6], [2, 3])]) (S18_ok 2) noL_ok (fun on out => p18f on out)) ?_
    exact LoopT.last (by simp) (CodeT.out (S := S18a.on [(24, false)]) S18a_ok noL_ok (fun on out => p18x on out))
  · cases hk
theorem loops18 : LoopsOK Try.prog L18 Try.f18.ntmps 0 (bodyOf Try.f18) := loops_one rfl (by kernel_rfl) loopOK18
noncomputable def S18k : Spec := mkS [(19, false, FTNew)]
--CP p18 . :: fnK Try.prog (S18k.on [(15, false)]) L18 Try.f18 [] []
theorem p18 
    (h1 : (1000000000 : Int) ≤ (1000000000 : Int) ∧ (1000000000 : Int) ≤ (100000000000 : Int) := by first | omega | assumption | rfl | ((repeat' with_reducible apply And.intro) <;> first | rfl | assumption | omega)) : fnK Try.prog (S18k.on [(15, false)]) L18 Try.f18 [] [] =
     (some (Res.ret (Value.bool true) [])) :=
  Eq.trans (by kernel_rfl) (go_t (chk_t h1) rfl)
--CFEND
theorem S18k_ok : SpecOK Try.prog S18k := mkS_cons okTNew (mkS_nil _)
def FKnw30 : FSpec := fun args h k => match args, h with
  | [], [] => k (.bool true) []
  | _, _ => none
theorem okKnw30 : EntryOK Try.prog 18 FKnw30 := by
  refine EntryOK.of_paths (fn := Try.f18) follows_ok Try.func18 (by kernel_rfl) (by kernel_rfl) ?_
  intro args h k out hF
  unfold FKnw30 at hF
  split at hF
  · exact ⟨_, _, hF, fun _ => ⟨S18k.on [(15, false)], L18, S18k_ok, loops18, p18⟩⟩
  · cases hF
end Go.Proofs.Ythdeanljgdjbhaa.VC
