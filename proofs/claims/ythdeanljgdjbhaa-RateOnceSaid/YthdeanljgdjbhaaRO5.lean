/- RateOnce. -/
import Derived.Test.YthdeanljgdjbhaaRO4
namespace Go.Proofs.Ythdeanljgdjbhaa.VC
open Go Go.Proofs

noncomputable def fin6 (g : Int) (N M : Nat) (ds ps : List Int) : Int := Classical.epsilon fun t : Int => LoopT Try.prog Try.f6.ntmps 2 (loopOf Try.f6 0) (zipS live6 (st6 g N M 0 0)) (hp6 g (-9223372036854775808) N M ds ps [] [] []) (.exit 0) (zipS live6 (st6 g N M N t))
      [some ⟨false, 1, [.ints .u32 N ds]⟩, some ⟨false, 1, [.ints .u8 M ps]⟩, none, none, none, none]
noncomputable def L6f : LF := fun vs h k => match vs, h with
  | [.bool false, .int .i64 g, .slice (some ⟨1, 0, none⟩) M 2, .slice (some ⟨0, 0, none⟩) N 2, .int .i64 N', .int .i64 0, .pointer (some ⟨2, 0, none⟩), .map (some 4), .map (some 5), .int .i64 0],
    [some ⟨false, 1, [.ints .u32 N2 ds]⟩, some ⟨false, 1, [.ints .u8 M2 ps]⟩, some ⟨true, 3, [.ints .i64 2 [g2, z], .vals [.map (some 3)]]⟩, some ⟨true, 0, [.mp true []]⟩, some ⟨true, 0, [.mp true []]⟩, some ⟨true, 0, [.mp true []]⟩] =>
    bif chk (N' = N ∧ N2 = N ∧ M2 = M ∧ g2 = g ∧ z = -9223372036854775808 ∧ 0 ≤ g ∧ g ≤ 4611686018427387904 ∧ N ≤ 100 ∧ N ≤ M) then
      k (.exit 0) (st6 g N M N (fin6 g N M ds ps)) [some ⟨false, 1, [.ints .u32 N ds]⟩, some ⟨false, 1, [.ints .u8 M ps]⟩, none, none, none, none] else none
  | _, _ => none
noncomputable def L6 : LSpec := oneL 7 live6 L6f
theorem getD_rng {xs : List Int} {a b : Int} (h : ∀ x ∈ xs, a ≤ x ∧ x ≤ b) (h0 : a ≤ 0 ∧ 0 ≤ b) (i : Nat) : a ≤ xs.getD i 0 ∧ xs.getD i 0 ≤ b := by
  rw [List.getD_eq_getElem?_getD]
  rcases Nat.lt_or_ge i xs.length with hi | hi
  · rw [List.getElem?_eq_getElem hi]; exact h _ (List.getElem_mem hi)
  · rw [List.getElem?_eq_none hi]; exact h0
theorem loopOK6 : LoopOK Try.prog Try.f6.ntmps 2 (loopOf Try.f6 0) live6 L6f := by
  refine LoopOK.of_T ?_
  intro vs h k out hk
  unfold L6f at hk
  split at hk
  · obtain ⟨hb, hk2⟩ := bif_t hk
    obtain ⟨rfl, rfl, rfl, rfl, rfl, h1, h2, h3, h4⟩ := chk_iff.1 hb
    refine ⟨_, _, _, hk2, fun real => ?_⟩
    have r1 := (real.segs (i := 0) rfl) _ (List.mem_cons_self ..)
    have r2 := (real.segs (i := 1) rfl) _ (List.mem_cons_self ..)
    obtain ⟨t, h⟩ := loop6 _ _ _ _ _ ⟨h1, h2⟩ h3 h4 (getD_rng r1.2 ⟨by decide, by decide⟩) (getD_rng r2.2 ⟨by decide, by decide⟩) _ 0 0 (-9223372036854775808) [] (Nat.zero_add _) ⟨List.nodup_nil, fun c hc => (by cases hc), fun c hc => (by cases hc), (by omega)⟩ (by omega) (by omega)
    exact Classical.epsilon_spec (p := fun t : Int => LoopT Try.prog Try.f6.ntmps 2 (loopOf Try.f6 0) (zipS live6 (st6 _ _ _ 0 0)) (hp6 _ (-9223372036854775808) _ _ _ _ [] [] []) (.exit 0) (zipS live6 (st6 _ _ _ _ t))
      [some ⟨false, 1, [.ints .u32 _ _]⟩, some ⟨false, 1, [.ints .u8 _ _]⟩, none, none, none, none]) ⟨t, h⟩
  · cases hk
theorem loops6 : LoopsOK Try.prog L6 Try.f6.ntmps 2 (bodyOf Try.f6) := loops_one rfl (by kernel_rfl) loopOK6
--CP cAsk0 (p at' : Int) :: fnK Try.prog (mkS []) noL Try.f21 [.pointer none, addrV p, w63 at'] []
theorem cAsk0 (p at' : Int) : fnK Try.prog (mkS []) noL Try.f21 [.pointer none, addrV p, w63 at'] [] =
     (some (Res.ret (Value.int IntKind.u8 (0 : Int)) [])) :=
  Eq.trans (by kernel_rfl) rfl
--CFEND
def FAsk0 : FSpec := fun args h k => match args, h with
  | [.pointer none, .agg ⟨[.int .u8 0, .int .u8 0, .int .u8 0, .int .u8 0, .int .u16 _]⟩, .int .i64 _], [] => k (.int .u8 0) []
  | _, _ => none
theorem okAsk0 : EntryOK Try.prog 21 FAsk0 := by
  refine EntryOK.of_paths (fn := Try.f21) follows_ok Try.func21 (by kernel_rfl) (by kernel_rfl) ?_
  intro args h k out hF
  unfold FAsk0 at hF
  split at hF
  · exact ⟨_, _, hF, fun _ => ⟨mkS [], noL, mk0, noL_ok, cAsk0 _ _⟩⟩
  · cases hF
--CP cCli0 . :: fnK Try.prog (mkS []) noL Try.f24 [.pointer none] []
theorem cCli0  : fnK Try.prog (mkS []) noL Try.f24 [.pointer none] [] =
     (some (Res.ret (Value.slice none (0 : Nat) (0 : Nat)) [])) :=
  Eq.trans (by kernel_rfl) rfl
--CFEND
def FCli0 : FSpec := fun args h k => match args, h with
  | [.pointer none], [] => k (.slice none 0 0) []
  | _, _ => none
theorem okCli0 : EntryOK Try.prog 24 FCli0 := by
  refine EntryOK.of_paths (fn := Try.f24) follows_ok Try.func24 (by kernel_rfl) (by kernel_rfl) ?_
  intro args h k out hF
  unfold FCli0 at hF
  split at hF
  · exact ⟨_, _, hF, fun _ => ⟨mkS [], noL, mk0, noL_ok, cCli0⟩⟩
  · cases hF
--CP cTCp0 . :: fnK Try.prog (mkS []) noL Try.f20 [.pointer none] []
theorem cTCp0  : fnK Try.prog (mkS []) noL Try.f20 [.pointer none] [] =
     (some (Res.ret (Value.pointer none) [])) :=
  Eq.trans (by kernel_rfl) rfl
--CFEND
def FTCp0 : FSpec := fun args h k => match args, h with
  | [.pointer none], [] => k (.pointer none) []
  | _, _ => none
theorem okTCp0 : EntryOK Try.prog 20 FTCp0 := by
  refine EntryOK.of_paths (fn := Try.f20) follows_ok Try.func20 (by kernel_rfl) (by kernel_rfl) ?_
  intro args h k out hF
  unfold FTCp0 at hF
  split at hF
  · exact ⟨_, _, hF, fun _ => ⟨mkS [], noL, mk0, noL_ok, cTCp0⟩⟩
  · cases hF
noncomputable def S6t : Spec := mkS [(18, false, FKnw30), (19, false, FTNew), (21, false, FAsk0), (24, false, FCli0), (20, false, FTCp0)]
noncomputable def S6e : Spec := mkS [(18, false, FKnw30), (19, false, FTNewE)]
theorem S6t_ok : SpecOK Try.prog S6t := mkS_cons okKnw30 (mkS_cons okTNew (mkS_cons okAsk0 (mkS_cons okCli0 (mkS_cons okTCp0 (mkS_nil _)))))
theorem S6e_ok : SpecOK Try.prog S6e := mkS_cons okKnw30 (mkS_cons okTNewE (mkS_nil _))
--CP p6e (g : Int) (N M : Nat) (ds ps : List Int) :: fnK Try.prog (S6e.on [(38, true)]) L6 Try.f6 [w63 g, sl 0 N 2, sl 1 M 2] [some ⟨false, 1, [.ints .u32 N ds]⟩, some ⟨false, 1, [.ints .u8 M ps]⟩]
theorem p6e (g : Int) (N M : Nat) (ds ps : List Int)
    (h1 : ¬((1000000000 : Int) ≤ g ∧ g ≤ (100000000000 : Int)) := by first | omega | assumption | rfl | ((repeat' with_reducible apply And.intro) <;> first | rfl | assumption | omega)) : fnK Try.prog (S6e.on [(38, true)]) L6 Try.f6 [w63 g, sl 0 N 2, sl 1 M 2] [some ⟨false, 1, [.ints .u32 N ds]⟩, some ⟨false, 1, [.ints .u8 M ps]⟩] =
     (bif decide ((↑N : Int) > (100 : Int)) then some (Res.ret (Value.bool true) [some (Blk.mk false (1 : Nat) [Seg.ints IntKind.u32 N ds]), some (Blk.mk false (1 : Nat) [Seg.ints IntKind.u8 M ps])]) else
     bif decide ((↑M : Int) < (↑N : Int)) then some (Res.ret (Value.bool true) [some (Blk.mk false (1 : Nat) [Seg.ints IntKind.u32 N ds]), some (Blk.mk false (1 : Nat) [Seg.ints IntKind.u8 M ps])]) else
     some (Res.ret (Value.bool true) [some (Blk.mk false (1 : Nat) [Seg.ints IntKind.u32 N ds]), some (Blk.mk false (1 : Nat) [Seg.ints IntKind.u8 M ps])])) :=
  Eq.trans (by kernel_rfl) (go_t (chk_t h1) rfl)
--CFEND
--CP p6L (g : Int) (N M : Nat) (ds ps : List Int) :: fnK Try.prog (S6t.on [(38, true)]) L6 Try.f6 [w63 g, sl 0 N 2, sl 1 M 2] [some ⟨false, 1, [.ints .u32 N ds]⟩, some ⟨false, 1, [.ints .u8 M ps]⟩]
theorem p6L (g : Int) (N M : Nat) (ds ps : List Int)
    (h1 : (1000000000 : Int) ≤ g ∧ g ≤ (100000000000 : Int) := by first | omega | assumption | rfl | ((repeat' with_reducible apply And.intro) <;> first | rfl | assumption | omega)) : fnK Try.prog (S6t.on [(38, true)]) L6 Try.f6 [w63 g, sl 0 N 2, sl 1 M 2] [some ⟨false, 1, [.ints .u32 N ds]⟩, some ⟨false, 1, [.ints .u8 M ps]⟩] =
     (bif decide ((↑N : Int) > (100 : Int)) then some (Res.ret (Value.bool true) [some (Blk.mk false (1 : Nat) [Seg.ints IntKind.u32 N ds]), some (Blk.mk false (1 : Nat) [Seg.ints IntKind.u8 M ps])]) else
     bif decide ((↑M : Int) < (↑N : Int)) then some (Res.ret (Value.bool true) [some (Blk.mk false (1 : Nat) [Seg.ints IntKind.u32 N ds]), some (Blk.mk false (1 : Nat) [Seg.ints IntKind.u8 M ps])]) else
     none) :=
  Eq.trans (by kernel_rfl) (go_t (chk_t h1) rfl)
--CFEND
--CP p6 (g : Int) (N M : Nat) (ds ps : List Int) :: fnK Try.prog (S6t.on [(38, false)]) L6 Try.f6 [w63 g, sl 0 N 2, sl 1 M 2] [some ⟨false, 1, [.ints .u32 N ds]⟩, some ⟨false, 1, [.ints .u8 M ps]⟩]
theorem p6 (g : Int) (N M : Nat) (ds ps : List Int)
    (h1 : (1000000000 : Int) ≤ g ∧ g ≤ (100000000000 : Int) := by first | omega | assumption | rfl | ((repeat' with_reducible apply And.intro) <;> first | rfl | assumption | omega))
    (h2 : ¬(↑N : Int) > (100 : Int) := by first | omega | assumption | rfl)
    (h3 : ¬(↑M : Int) < (↑N : Int) := by first | omega | assumption | rfl)
    (h4 : (↑N : Int) = (↑N : Int) ∧ N = N ∧ M = M ∧ g = g ∧ (-9223372036854775808 : Int) = (-9223372036854775808 : Int) ∧ (0 : Int) ≤ g ∧ g ≤ (4611686018427387904 : Int) ∧ N ≤ (100 : Nat) ∧ N ≤ M := by first | omega | assumption | rfl | ((repeat' with_reducible apply And.intro) <;> first | rfl | assumption | omega)) : fnK Try.prog (S6t.on [(38, false)]) L6 Try.f6 [w63 g, sl 0 N 2, sl 1 M 2] [some ⟨false, 1, [.ints .u32 N ds]⟩, some ⟨false, 1, [.ints .u8 M ps]⟩] =
     (some (Res.ret (Value.bool true) [some (Blk.mk false (1 : Nat) [Seg.ints IntKind.u32 N ds]), some (Blk.mk false (1 : Nat) [Seg.ints IntKind.u8 M ps])])) :=
  Eq.trans (by kernel_rfl) (go_t (chk_t h1) (go_f (dec_f h2) (go_f (dec_f h3) (go_t (chk_t h4) rfl))))
--CFEND
noncomputable def F6 : FSpec := fun args h k => match args, h with
  | [.int .i64 _, .slice (some ⟨0, 0, none⟩) N 2, .slice (some ⟨1, 0, none⟩) M 2], [some ⟨false, 1, [.ints .u32 N2 ds]⟩, some ⟨false, 1, [.ints .u8 M2 ps]⟩] =>
    bif chk (N2 = N ∧ M2 = M) then k (.bool true) [some ⟨false, 1, [.ints .u32 N ds]⟩, some ⟨false, 1, [.ints .u8 M ps]⟩] else none
  | _, _ => none
theorem ok6 : EntryOK Try.prog 6 F6 := by
  refine EntryOK.of_paths (fn := Try.f6) follows_ok Try.func6 (by kernel_rfl) (by kernel_rfl) ?_
  intro args h k out hF
  unfold F6 at hF
  split at hF
  · obtain ⟨hb, hF2⟩ := bif_t hF
    obtain ⟨rfl, rfl⟩ := chk_iff.1 hb
    rename_i g N ds M ps
    refine ⟨_, _, hF2, fun _ => ?_⟩
    by_cases hg : 1000000000 ≤ g ∧ g ≤ 100000000000
    · by_cases h1 : (N : Int) > 100
      · refine ⟨S6t.on [(38, true)], L6, S6t_ok, loops6, ?_⟩
        rw [p6L g N M ds ps hg, decide_eq_true h1]; rfl
      · by_cases h2 : (M : Int) < (N : Int)
        · refine ⟨S6t.on [(38, true)], L6, S6t_ok, loops6, ?_⟩
          rw [p6L g N M ds ps hg, decide_eq_false h1, decide_eq_true h2]; rfl
        · exact ⟨S6t.on [(38, false)], L6, S6t_ok, loops6, p6 g N M ds ps hg h1 h2 ⟨rfl, rfl, rfl, rfl, rfl, by omega, by omega, by omega, by omega⟩⟩
    · refine ⟨S6e.on [(38, true)], L6, S6e_ok, loops6, ?_⟩
      rw [p6e g N M ds ps hg]
      cases decide ((N : Int) > 100) <;> cases decide ((M : Int) < (N : Int)) <;> rfl
  · cases hF
theorem top6 {g : Int} {N M : Nat} {ds ps : List Int} {k : Value → Heap → Out} : F6 [w63 g, sl 0 N 2, sl 1 M 2] [some ⟨false, 1, [.ints .u32 N ds]⟩, some ⟨false, 1, [.ints .u8 M ps]⟩] k = k (.bool true) [some ⟨false, 1, [.ints .u32 N ds]⟩, some ⟨false, 1, [.ints .u8 M ps]⟩] := by
  show (bif chk (N = N ∧ M = M) then _ else _) = _
  rw [chk_iff.2 ⟨rfl, rfl⟩]
  rfl
end Go.Proofs.Ythdeanljgdjbhaa.VC
