/- EdgePlays: the document's count. -/
import Derived.Test.YtpidmcpnkfgcjaaE5
namespace Go.Proofs.Ytpidmcpnkfgcjaa.VC
open Go Go.Proofs

abbrev wR (v : Value) : Option Blk := some ⟨false, 1, [.vals [v]]⟩
noncomputable def L19f : LF := fun vs h k => match vs, h with
  | [.int .i64 0, .pointer (some ⟨0, 0, none⟩), .int .i64 a, .int .i64 b, .int .i64 0, .int .i64 0], [some ⟨false, 1, [.vals [.slice (some ⟨1, o, none⟩) n cp]]⟩, some ⟨false, 1, [.ints .i64 N l]⟩] =>
    bif chk (o + n ≤ N ∧ n ≤ 1000) then k (.exit 0) [w63 0, pt 0, w63 a, w63 b, w63 (cnt (curL o n l) a b), w63 n] [wR (.slice (some ⟨1, o, none⟩) n cp), rI N l] else none
  | _, _ => none
noncomputable def L19 : LSpec := oneL 3 live19 L19f
--CF cf19 (a b : Int) (o n N cp : Nat) (l : List Int) :: fnK Try.prog (mkS []) L19 Try.f19 [pt 0, w63 a, w63 b] [wR (.slice (some ⟨1, o, none⟩) n cp), rI N l]
theorem cf19 (a b : Int) (o n N cp : Nat) (l : List Int) : fnK Try.prog (mkS []) L19 Try.f19 [pt 0, w63 a, w63 b] [wR (.slice (some ⟨1, o, none⟩) n cp), rI N l] =
     (bif chk (o + n ≤ N ∧ n ≤ 1000) then some (Res.ret (Value.int IntKind.i64 (↑(cnt (curL o n l) a b) : Int)) [some (Blk.mk false 1 [Seg.vals [Value.slice (some (Addr.mk 1 o none)) n cp]]), some (Blk.mk
     false 1 [Seg.ints IntKind.i64 N l])]) else none) := by kernel_rfl
--CFEND
--CF cf19rn (a b : Int) (on : List Value → Heap → Out) (out : Exit → List Value → Heap → Out) :: roundK Try.prog (mkS []) noL Try.f19.ntmps 1 (loopOf Try.f19 0) live19 [w63 0, pt 0, w63 a, w63 b, w63 0, w63 0] [wR (.slice none 0 0)] on out
theorem cf19rn (a b : Int) (on : List Value → Heap → Out) (out : Exit → List Value → Heap → Out) : roundK Try.prog (mkS []) noL Try.f19.ntmps 1 (loopOf Try.f19 0) live19 [w63 0, pt 0, w63 a, w63 b, w63 0, w63 0] [wR (.slice none 0 0)] on out =
     (out (Exit.exit 0) [Value.int IntKind.i64 0, Value.pointer (some (Addr.mk 0 0 none)), Value.int IntKind.i64 a, Value.int IntKind.i64 b, Value.int IntKind.i64 0, Value.int IntKind.i64 0] [some (Blk.mk
     false 1 [Seg.vals [Value.slice none 0 0]])]) := by kernel_rfl
--CFEND
theorem loop19 {a b : Int} {o n N cp : Nat} {l : List Int} (hn : n ≤ 1000) (ho : o + n ≤ N) (hl : l.length = N) {k : Exit → List Value → Heap → Out} : ∀ (r i c : Nat), i + r = n → c ≤ i →
    loopN Try.prog (mkS []) noL Try.f19.ntmps 2 (loopOf Try.f19 0) live19 (r + 1) [w63 0, pt 0, w63 a, w63 b, w63 c, w63 i] [wR (.slice (some ⟨1, o, none⟩) n cp), rI N l] k =
    k (.exit 0) [w63 0, pt 0, w63 a, w63 b, w63 (c + cnt ((curL o n l).drop i) a b : Nat), w63 n] [wR (.slice (some ⟨1, o, none⟩) n cp), rI N l] := by
  have len : (curL o n l).length = n := by unfold curL; rw [List.length_take, List.length_drop]; omega
  intro r
  induction r with
  | zero =>
    intro i c hi _
    refine (loopN_succ ..).trans ((cf19r ..).trans ?_)
    have : i = n := by omega
    subst this
    rw [dec_f (show ¬ (i : Int) < i by omega), condF, List.drop_of_length_le (by omega)]
    rfl
  | succ r ih =>
    intro i c hi hc
    refine (loopN_succ ..).trans ((cf19r ..).trans ?_)
    have eg : (curL o n l).getD i 0 = l.getD (o + i) 0 := by
      unfold curL
      rw [List.getD_eq_getElem?_getD, List.getD_eq_getElem?_getD, List.getElem?_take_of_lt (by omega), List.getElem?_drop]
    simp only [dec_t (show (i : Int) < n by omega), condT, dec_t (show (0 : Int) ≤ i by omega), Bool.and_self, Int.toNat_natCast, Nat.mul_one, blt_t (show o + i < N by omega), snat i (by omega), snat c (by omega)]
    rw [cnt_drop (by omega), eg]
    have q1 := ih (i + 1) (c + 1) (by omega) (by omega)
    have q2 := ih (i + 1) c (by omega) (by omega)
    by_cases h1 : l.getD (o + i) 0 ≥ a
    · by_cases h2 : l.getD (o + i) 0 ≤ b
      · rw [dec_t h1, dec_t h2, Bool.and_self, condT, condT, condT]
        rw [Nat.add_assoc] at q1
        exact q1
      · rw [dec_t h1, dec_f h2, Bool.and_false, condT, condF, condF, Nat.zero_add]
        exact q2
    · rw [dec_f h1, Bool.false_and, condF, condF, Nat.zero_add]
      exact q2
theorem loopOK19 : LoopOK Try.prog Try.f19.ntmps 2 (loopOf Try.f19 0) live19 L19f := by
  refine LoopOK.of_rounds (mkS_nil _) follows_ok (L := noL) noL_ok ?_
  intro vs h k out hk
  unfold L19f at hk
  split at hk
  · rename_i a b o n cp N l
    obtain ⟨hb, hk2⟩ := bif_t hk
    obtain ⟨h1, h2⟩ := chk_iff.1 hb
    refine ⟨_, _, _, hk2, fun real => ⟨n + 1, ?_⟩⟩
    have := loop19 (a := a) (b := b) (cp := cp) h2 h1 (real.wseg (i := 1) rfl) (k := fun e vs h => some (.at e (zipS live19 vs) h)) n 0 0 (Nat.zero_add _) (Nat.le_refl _)
    rw [Nat.zero_add, List.drop_zero] at this
    exact this
  · cases hk
theorem loops19 : LoopsOK Try.prog L19 Try.f19.ntmps 2 (bodyOf Try.f19) := loops_one rfl (by kernel_rfl) loopOK19
noncomputable def L19nf : LF := fun vs h k => match vs, h with
  | [.int .i64 0, .pointer (some ⟨0, 0, none⟩), .int .i64 a, .int .i64 b, .int .i64 0, .int .i64 0], [some ⟨false, 1, [.vals [.slice none 0 0]]⟩] =>
    k (.exit 0) [w63 0, pt 0, w63 a, w63 b, w63 0, w63 0] [wR (.slice none 0 0)]
  | _, _ => none
noncomputable def L19n : LSpec := oneL 3 live19 L19nf
--CF cf19n (a b : Int) :: fnK Try.prog (mkS []) L19n Try.f19 [pt 0, w63 a, w63 b] [wR (.slice none 0 0)]
theorem cf19n (a b : Int) : fnK Try.prog (mkS []) L19n Try.f19 [pt 0, w63 a, w63 b] [wR (.slice none 0 0)] =
     (some (Res.ret (Value.int IntKind.i64 0) [some (Blk.mk false 1 [Seg.vals [Value.slice none 0 0]])])) := by kernel_rfl
--CFEND
noncomputable def F19 : FSpec := fun args h k => match args, h with
  | [.pointer (some ⟨0, 0, none⟩), .int .i64 _, .int .i64 _], [some ⟨false, 1, [.vals [.slice none 0 0]]⟩] => k (w63 0) [wR (.slice none 0 0)]
  | [.pointer (some ⟨0, 0, none⟩), .int .i64 a, .int .i64 b], [some ⟨false, 1, [.vals [.slice (some ⟨1, o, none⟩) n cp]]⟩, some ⟨false, 1, [.ints .i64 N l]⟩] =>
    bif chk (o + n ≤ N ∧ n ≤ 1000) then k (w63 (cnt (curL o n l) a b)) [wR (.slice (some ⟨1, o, none⟩) n cp), rI N l] else none
  | _, _ => none
theorem loopOK19n : LoopOK Try.prog Try.f19.ntmps 1 (loopOf Try.f19 0) live19 L19nf := by
  refine LoopOK.of_rounds (mkS_nil _) follows_ok (L := noL) noL_ok ?_
  intro vs h k out hk
  unfold L19nf at hk
  split at hk
  · exact ⟨_, _, _, hk, fun _ => ⟨1, (loopN_succ ..).trans (cf19rn ..)⟩⟩
  · cases hk
theorem loops19n : LoopsOK Try.prog L19n Try.f19.ntmps 1 (bodyOf Try.f19) := loops_one rfl (by kernel_rfl) loopOK19n
theorem ok19 : EntryOK Try.prog 19 F19 := by
  refine EntryOK.of_fn (mkS_nil _) follows_ok Try.func19 (by kernel_rfl) (by kernel_rfl) ?_
  intro args h k out hF
  unfold F19 at hF
  split at hF
  · exact ⟨_, _, hF, fun _ => ⟨L19n, loops19n, cf19n ..⟩⟩
  · obtain ⟨hb, hF2⟩ := bif_t hF
    exact ⟨_, _, hF2, fun _ => ⟨L19, loops19, (cf19 ..).trans (chk_if (chk_iff.1 hb) rfl)⟩⟩
  · cases hF
end Go.Proofs.Ytpidmcpnkfgcjaa.VC
