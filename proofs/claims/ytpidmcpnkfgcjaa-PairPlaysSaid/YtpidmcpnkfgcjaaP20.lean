/- PairPlays: the law's function. -/
import Derived.Test.YtpidmcpnkfgcjaaP19
namespace Go.Proofs.Ytpidmcpnkfgcjaa.VC
open Go Go.Proofs

/-- Nil slices in a block's cells behind numbers. -/
theorem WeakS.nilC2 {s : Slots} {h : Heap} {id : Nat} {own : Bool} {es : Nat} {k : IntKind} {m : Nat} {l : List Int} {vs vs2 : List Value} (hb : h[id]? = some (some ⟨own, es, [.ints k m l, .vals vs]⟩)) (hw : NilW vs vs2) : WeakS s h s (h.set id (some ⟨own, es, [.ints k m l, .vals vs2]⟩)) := by
  have hlt : id < h.length := (List.getElem?_eq_some_iff.1 hb).1
  have key : ∀ (i : Nat) (b2 : Blk), (h.set id (some ⟨own, es, [.ints k m l, .vals vs2]⟩))[i]? = some (some b2) → (i = id ∧ b2 = ⟨own, es, [.ints k m l, .vals vs2]⟩) ∨ h[i]? = some (some b2) := by
    intro i b2 hi
    by_cases e : i = id
    · subst e; rw [List.getElem?_set_self hlt] at hi; cases hi; exact .inl ⟨rfl, rfl⟩
    · rw [List.getElem?_set_ne (Ne.symm e)] at hi; exact .inr hi
  refine ⟨by simp, fun ι n base w a hs hr => ⟨hs, HR_cellsR hr (by simp) (fun i b2 hi => ?_), fun b hm => mods_cells (fun i b2 hi => ?_) hm⟩⟩
  · rcases key i b2 hi with ⟨rfl, rfl⟩ | hi
    · refine ⟨_, hb, rfl, rfl, fun q => segsOK_cons.2 ⟨(segsOK_cons.1 q).1, segsOK_cons.2 ⟨trivial, segsOK_nil⟩⟩, fun j v hv => ?_⟩
      simp only [cell?] at hv ⊢
      by_cases hjm : j < m
      · rw [if_pos hjm] at hv ⊢
        exact ⟨v, hv, fun _ x => x⟩
      rw [if_neg hjm] at hv ⊢
      generalize j - m = j at hv ⊢
      cases hx : vs2[j]? with
      | none => rw [hx] at hv; cases hv
      | some y =>
        rw [hx] at hv; cases hv
        have hj : j < vs.length := by rw [hw.len]; exact (List.getElem?_eq_some_iff.1 hx).1
        rw [List.getElem?_eq_getElem hj]
        exact ⟨_, rfl, fun v' hvr => hw.at ι j _ _ v' (List.getElem?_eq_getElem hj) hx hvr⟩
    · exact ⟨b2, hi, rfl, rfl, fun x => x, fun j v hv => ⟨v, hv, fun _ x => x⟩⟩
  · rcases key i b2 hi with ⟨rfl, rfl⟩ | hi
    · exact ⟨_, hb, rfl⟩
    · exact ⟨b2, hi, rfl⟩
abbrev init6 : S6 := ⟨0, false, zero9, none, [], 0⟩
/-- How the loop ends. -/
noncomputable def fin6 (w : Int) (n : Nat) (vs : List FV) : S6 := @Classical.epsilon S6 ⟨init6⟩ fun s' =>
  LoopT Try.prog Try.f6.ntmps 1 (loopOf Try.f6 0) (zipS live6 (st6 n 0 init6)) (hp6 w n vs init6) (.exit 0) (zipS live6 (st6 n n s')) (end6 n vs)
def nxV (s : S6) : Value := match s.wt with | none => pt 3 | some _ => pt 4
noncomputable def L6f : LF := fun vs h k => match vs, h with
  | [.bool false, .pointer (some ⟨1, 0, none⟩), .pointer (some ⟨3, 0, none⟩), .slice (some ⟨0, 0, none⟩) n 2, .int .i64 n', .int .i64 0],
    [some ⟨false, 9, [.any N fs]⟩, some ⟨true, 5, [.vals [.pointer (some ⟨2, 0, none⟩)], .ints .i64 2 [w, 0], .vals [.bool false, .pointer none]]⟩, some ⟨true, 9, [.ints .i64 9 xs]⟩, some ⟨true, 2, [.ints .i64 1 [w'], .vals [.slice none 0 0]]⟩] =>
    bif chk (N = n * 9 ∧ n' = n ∧ w' = w ∧ xs = zero9 ∧ n ≤ 60 ∧ 0 ≤ w ∧ w ≤ 900000000 ∧ KindsOK opK' n fs) then
      k (.exit 0) [.bool false, pt 1, nxV (fin6 w n fs), sl 0 n 2, w63 n, w63 n] (end6 n fs) else none
  | _, _ => none
noncomputable def L6 : LSpec := oneL 10 live6 L6f
theorem loopOK6 : LoopOK Try.prog Try.f6.ntmps 1 (loopOf Try.f6 0) live6 L6f := by
  refine LoopOK.of_T ?_
  intro vs h k out hk
  unfold L6f at hk
  split at hk
  · rename_i n n' N fs w xs w'
    obtain ⟨hb, hk2⟩ := bif_t hk
    obtain ⟨rfl, rfl, rfl, rfl, h5, h6, h7, h8⟩ := chk_iff.1 hb
    refine ⟨_, _, _, hk2, fun real => ?_⟩
    have := loop6 (w := w') h5 h8 n 0 init6 (Nat.zero_add _) ⟨⟨rfl, rfl, fun j h => (by cases h)⟩, Nat.le_refl _, h6, h7, fun i j _ h => (by cases h), Int.le_refl _, fun h => (h rfl).elim, fun _ => rfl, fun j h => (by have h : (-1 : Int) = j := h; omega), fun _ => rfl, fun a m e => by cases e⟩
    have := @Classical.epsilon_spec S6 _ this
    exact LoopT.weak ((WeakS.nilA (es := 10) (own := true)).trans (WeakS.nilC2 (id := 3) rfl (.none 4 0 .nil))) this
  · cases hk
theorem loops6 : LoopsOK Try.prog L6 Try.f6.ntmps 1 (bodyOf Try.f6) := loops_one rfl (by kernel_rfl) loopOK6
noncomputable def S6a : Spec := mkS [(25, false, FTrue7), (26, false, FNew)]
noncomputable def S6b : Spec := mkS [(25, false, FTrue7), (26, false, FNewR)]
--CP p6 (w : Int) (n : Nat) (vs : List FV) :: fnK Try.prog (S6a.on [(21, false), (33, false), (48, false)]) L6 Try.f6 [w63 w, sl 0 n 2] [opsB n vs]
theorem p6 (w : Int) (n : Nat) (vs : List FV)
    (h1 : ¬(↑n : Int) > (60 : Int) := by first | omega | assumption | rfl)
    (h2 : (100000000 : Int) ≤ w ∧ w ≤ (900000000 : Int) := by first | omega | assumption | rfl | ((repeat' with_reducible apply And.intro) <;> first | rfl | assumption | omega))
    (h3 : ¬w < (100000000 : Int) := by first | omega | assumption | rfl)
    (h4 : ¬w > (900000000 : Int) := by first | omega | assumption | rfl)
    (h5 : n * (9 : Nat) = n * (9 : Nat) ∧ (↑n : Int) = (↑n : Int) ∧ w = w ∧ zero9 = zero9 ∧ n ≤ (60 : Nat) ∧ (0 : Int) ≤ w ∧ w ≤ (900000000 : Int) ∧ KindsOK opK' n vs := by first | omega | assumption | rfl | ((repeat' with_reducible apply And.intro) <;> first | rfl | assumption | omega)) : fnK Try.prog (S6a.on [(21, false), (33, false), (48, false)]) L6 Try.f6 [w63 w, sl 0 n 2] [opsB n vs] =
     (some (Res.ret (Value.bool true) [some (Blk.mk false (9 : Nat) [Seg.any (n * (9 : Nat)) vs])])) :=
  Eq.trans (by kernel_rfl) (go_f (dec_f h1) (go_t (chk_t h2) (go_f (dec_f h3) (go_f (dec_f h4) (go_t (chk_t h5) rfl)))))
--CFEND
--CP p6n (w : Int) (n : Nat) (vs : List FV) :: fnK Try.prog (S6a.on [(21, true)]) L6 Try.f6 [w63 w, sl 0 n 2] [opsB n vs]
theorem p6n (w : Int) (n : Nat) (vs : List FV)
    (h1 : (↑n : Int) > (60 : Int) := by first | omega | assumption | rfl) : fnK Try.prog (S6a.on [(21, true)]) L6 Try.f6 [w63 w, sl 0 n 2] [opsB n vs] =
     (some (Res.ret (Value.bool true) [some (Blk.mk false (9 : Nat) [Seg.any (n * (9 : Nat)) vs])])) :=
  Eq.trans (by kernel_rfl) (go_t (dec_t h1) rfl)
--CFEND
--CP p6r1 (w : Int) (n : Nat) (vs : List FV) :: fnK Try.prog (S6b.on [(21, false), (30, true), (33, true)]) L6 Try.f6 [w63 w, sl 0 n 2] [opsB n vs]
theorem p6r1 (w : Int) (n : Nat) (vs : List FV)
    (h1 : ¬(↑n : Int) > (60 : Int) := by first | omega | assumption | rfl)
    (h2 : ¬((100000000 : Int) ≤ w ∧ w ≤ (900000000 : Int)) := by first | omega | assumption | rfl | ((repeat' with_reducible apply And.intro) <;> first | rfl | assumption | omega))
    (h3 : w < (100000000 : Int) := by first | omega | assumption | rfl) : fnK Try.prog (S6b.on [(21, false), (30, true), (33, true)]) L6 Try.f6 [w63 w, sl 0 n 2] [opsB n vs] =
     (some (Res.ret (Value.bool true) [some (Blk.mk false (9 : Nat) [Seg.any (n * (9 : Nat)) vs])])) :=
  Eq.trans (by kernel_rfl) (go_f (dec_f h1) (go_t (chk_t h2) (go_t (dec_t h3) rfl)))
--CFEND
--CP p6r2 (w : Int) (n : Nat) (vs : List FV) :: fnK Try.prog (S6b.on [(21, false), (30, false), (33, true)]) L6 Try.f6 [w63 w, sl 0 n 2] [opsB n vs]
theorem p6r2 (w : Int) (n : Nat) (vs : List FV)
    (h1 : ¬(↑n : Int) > (60 : Int) := by first | omega | assumption | rfl)
    (h2 : ¬((100000000 : Int) ≤ w ∧ w ≤ (900000000 : Int)) := by first | omega | assumption | rfl | ((repeat' with_reducible apply And.intro) <;> first | rfl | assumption | omega))
    (h3 : ¬w < (100000000 : Int) := by first | omega | assumption | rfl)
    (h4 : w > (900000000 : Int) := by first | omega | assumption | rfl) : fnK Try.prog (S6b.on [(21, false), (30, false), (33, true)]) L6 Try.f6 [w63 w, sl 0 n 2] [opsB n vs] =
     (some (Res.ret (Value.bool true) [some (Blk.mk false (9 : Nat) [Seg.any (n * (9 : Nat)) vs])])) :=
  Eq.trans (by kernel_rfl) (go_f (dec_f h1) (go_t (chk_t h2) (go_f (dec_f h3) (go_t (dec_t h4) rfl))))
--CFEND
theorem S6a_ok : SpecOK Try.prog S6a := mkS_cons okKnw7 (mkS_cons okNew (mkS_nil _))
theorem S6b_ok : SpecOK Try.prog S6b := mkS_cons okKnw7 (mkS_cons okNewR (mkS_nil _))
noncomputable def F6 : FSpec := fun args h k => match args, h with
  | [.int .i64 _, .slice (some ⟨0, 0, none⟩) n 2], [some ⟨false, 9, [.any N vs]⟩] => bif chk (N = n * 9 ∧ KindsOK opK' n vs) then k (.bool true) [opsB n vs] else none
  | _, _ => none
theorem ok6 : EntryOK Try.prog 6 F6 := by
  refine EntryOK.of_paths (fn := Try.f6) follows_ok Try.func6 (by kernel_rfl) (by kernel_rfl) ?_
  intro args h k out hF
  unfold F6 at hF
  split at hF
  · rename_i w n N vs
    obtain ⟨hb, hF2⟩ := bif_t hF
    obtain ⟨rfl, hk⟩ := chk_iff.1 hb
    refine ⟨_, _, hF2, fun _ => ?_⟩
    by_cases c1 : (n : Int) > 60
    · exact ⟨_, L6, S6a_ok.on _, loops6, p6n w n vs⟩
    · by_cases c : 100000000 ≤ w ∧ w ≤ 900000000
      · exact ⟨_, L6, S6a_ok.on _, loops6, p6 w n vs⟩
      · by_cases c2 : w < 100000000
        · exact ⟨_, L6, S6b_ok.on _, loops6, p6r1 w n vs⟩
        · exact ⟨_, L6, S6b_ok.on _, loops6, p6r2 w n vs⟩
  · cases hF
theorem top6 {w : Int} {n : Nat} {vs : List FV} {k : Value → Heap → Out} (hk : KindsOK opK' n vs) : F6 [w63 w, sl 0 n 2] [opsB n vs] k = k (.bool true) [opsB n vs] :=
  chk_if ⟨rfl, hk⟩ rfl
end Go.Proofs.Ytpidmcpnkfgcjaa.VC
