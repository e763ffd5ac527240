/- EdgePlays: the law: rounds and end. -/
import Derived.Test.YtpidmcpnkfgcjaaE7
namespace Go.Proofs.Ytpidmcpnkfgcjaa.VC
open Go Go.Proofs

theorem copy9 {xs : List Int} (h : xs.length = 9) : [xs.getD 0 0, xs.getD 1 0, xs.getD 2 0, xs.getD 3 0, xs.getD 4 0, xs.getD 5 0, xs.getD 6 0, xs.getD 7 0, xs.getD 8 0] = xs := by
  match xs, h with
  | [_, _, _, _, _, _, _, _, _], _ => rfl
/-- Both logs, of all edges that were laid. -/
structure PlayI (xs A : List Int) (o q N : Nat) (l : List Int) : Prop where
  ring : Ring xs A
  len : l.length = N
  room : o + q ≤ N
  cur : curL o q l = A.drop (A.length - 8)
  all : allX xs = A.drop (A.length - 8)
theorem all_kept {xs A : List Int} (h : Ring xs A) : allX xs = A.drop (A.length - 8) := by
  have hn := h.num
  refine List.ext_getElem? fun i => ?_
  by_cases hi : i < min A.length 8
  · have e1 : (allX xs)[i]? = some ((allX xs).getD i 0) := by
      rw [List.getD_eq_getElem?_getD, List.getElem?_eq_getElem (by rw [allX_len, hn]; omega)]; rfl
    have e2 : A[A.length - 8 + i]? = some (A.getD (A.length - 8 + i) 0) := by
      rw [List.getD_eq_getElem?_getD, List.getElem?_eq_getElem (by omega)]; rfl
    rw [List.getElem?_drop, e1, e2, allX_get (by rw [hn]; omega), hn, Int.toNat_natCast, h.kept _ (by omega) (by omega)]
  · rw [List.getElem?_eq_none (by rw [allX_len, hn]; omega), List.getElem?_eq_none (by rw [List.length_drop]; omega)]
theorem PlayI.q {xs A : List Int} {o q N : Nat} {l : List Int} (h : PlayI xs A o q N l) : q = min A.length 8 := by
  have := congrArg List.length h.cur
  have h1 := h.len
  have h2 := h.room
  unfold curL at this
  rw [List.length_take, List.length_drop, List.length_drop] at this
  omega
theorem curL_get {o q : Nat} {l : List Int} {j : Nat} (h : j < q) : (curL o q l).getD j 0 = l.getD (o + j) 0 := by
  unfold curL
  rw [List.getD_eq_getElem?_getD, List.getD_eq_getElem?_getD, List.getElem?_take_of_lt h, List.getElem?_drop]
theorem PlayI.same {xs A : List Int} {o q N : Nat} {l : List Int} (h : PlayI xs A o q N l) : (allX xs).length = q ∧ (run17 (allX xs) 0 l o (allX xs).length 0).1 = true ∧ ∀ a b, cnt (allX xs) a b = cnt (curL o q l) a b := by
  have e : (allX xs).length = q := by rw [allX_len, h.ring.num, h.q]; rfl
  refine ⟨e, run17_t _ 0 fun j _ hj => ?_, fun a b => by rw [h.all, h.cur]⟩
  rw [Nat.zero_add, h.all, ← h.cur, curL_get (by omega)]
theorem PlayI.last {xs A : List Int} {o q N : Nat} {l : List Int} (h : PlayI xs A o q N l) (h0 : 0 < q) : l.getD (o + (q - 1)) 0 = A.getD (A.length - 1) 0 := by
  have hq := h.q
  rw [← curL_get (show q - 1 < q by omega), h.cur, List.getD_eq_getElem?_getD, List.getElem?_drop, ← List.getD_eq_getElem?_getD]
  congr 1
  omega
theorem PlayI.top {xs A : List Int} {o q N : Nat} {l : List Int} (h : PlayI xs A o q N l) (h0 : 0 < q) : xs.getD ((xs.getD 8 0 - 1) % 8).toNat 0 = l.getD (o + (q - 1)) 0 := by
  have hq := h.q
  rw [h.last h0, h.ring.num, show (((A.length : Int) - 1) % 8).toNat = (A.length - 1) % 8 by omega]
  exact h.ring.kept _ (by omega) (by omega)
theorem PlayI.low {xs A : List Int} {o q N : Nat} {l : List Int} (h : PlayI xs A o q N l) (c : Int) : lowB xs c = true ↔ c < 0 ∨ 0 < q ∧ c < l.getD (o + (q - 1)) 0 := by
  have hq := h.q
  have hn := h.ring.num
  unfold lowB
  by_cases h0 : 0 < q
  · rw [h.top h0, eqb_f (show xs.getD 8 0 ≠ 0 by omega)]
    simp [h0]
  · rw [eqb_t (show xs.getD 8 0 = 0 by omega)]
    simp [h0]
theorem PlayI.push {xs A : List Int} {o q N : Nat} {l : List Int} (h : PlayI xs A o q N l) (c : Int) : PlayI (pushR xs c) (A ++ [c]) (offN q) (lenN q) (q + 1) (curL o q l ++ [c]) := by
  have hq := h.q
  have hr := h.ring.push c
  have h1 := h.len
  have h2 := h.room
  have hl : (curL o q l).length = q := by unfold curL; rw [List.length_take, List.length_drop]; omega
  refine ⟨hr, by rw [List.length_append, hl]; rfl, ?_, ?_, all_kept hr⟩
  · by_cases h8 : 8 ≤ q
    · rw [(offN_l h8).1, (offN_l h8).2]; omega
    · rw [(offN_s h8).1, (offN_s h8).2]; omega
  · rw [List.length_append, List.length_singleton]
    by_cases h8 : 8 ≤ q
    · rw [(offN_l h8).1, (offN_l h8).2, h.cur]
      unfold curL
      have e : A.length + 1 - 8 = (A.length - 8) + 1 := by omega
      rw [List.take_of_length_le (by rw [List.length_drop, List.length_append, List.length_drop, List.length_singleton]; omega), e, ← List.drop_append_of_le_length (by omega), List.drop_drop]
    · rw [(offN_s h8).1, (offN_s h8).2, h.cur]
      unfold curL
      rw [show A.length - 8 = 0 by omega, show A.length + 1 - 8 = 0 by omega, List.drop_zero, List.drop_zero, List.drop_zero, List.take_of_length_le (by rw [List.length_append, List.length_singleton]; omega)]
theorem S3a_ok : SpecOK Try.prog S3a := mkS_cons ok10 (mkS_cons ok11 (mkS_cons ok12 (mkS_cons ok13m (mkS_cons ok14a (mkS_cons ok15 (mkS_cons ok16a (mkS_cons ok17 (mkS_cons ok18 (mkS_cons ok19 (mkS_nil _))))))))))
theorem S3r_ok : SpecOK Try.prog S3r := mkS_cons ok10 (mkS_cons ok11 (mkS_cons ok12 (mkS_cons ok13m (mkS_cons ok14r (mkS_cons ok15 (mkS_cons ok16a (mkS_cons ok17 (mkS_cons ok18 (mkS_cons ok19 (mkS_nil _))))))))))
theorem S3e_ok : SpecOK Try.prog S3e := mkS_cons ok10 (mkS_cons ok11 (mkS_cons ok12 (mkS_cons ok13m (mkS_cons ok14r (mkS_cons ok15 (mkS_cons ok16n (mkS_cons ok17 (mkS_cons ok18 (mkS_cons ok19 (mkS_nil _))))))))))
theorem loopOK3i : LoopOK Try.prog Try.f3.ntmps 1 inner3 live3i L3if := by
  refine LoopOK.of_rounds S3a_ok follows_ok (L := noL) noL_ok ?_
  intro vs h k out hk
  unfold L3if at hk
  split at hk
  · rename_i a b n n' i m m' n2 gs xs o q cp N l m2 al
    obtain ⟨hb, hk2⟩ := bif_t hk
    obtain ⟨rfl, rfl, h3, rfl, rfl, h6⟩ := chk_iff.1 hb
    obtain ⟨i, rfl⟩ := Int.eq_ofNat_of_zero_le h3
    exact ⟨_, _, _, hk2, fun _ => ⟨_, loop3i h6 m2 0 al (Nat.zero_add _)⟩⟩
  · cases hk
theorem loops3i : LoopsOK Try.prog L3i Try.f3.ntmps 1 (loopOf Try.f3 0) := loops_one rfl (by kernel_rfl) loopOK3i
abbrev st3 (a b : Int) (n i : Nat) : List Value := [.bool false, pt 1, pt 2, w63 a, w63 b, sl 0 n 2, w63 n, w63 i]
abbrev hp3 (n : Nat) (gs xs : List Int) (o q cp N : Nat) (l : List Int) : Heap := [gI n gs, eB true xs, wL (.slice (some ⟨3, o, none⟩) q cp), oI N l]
/-- A round that lays an edge. -/
theorem round3a {a b : Int} {n i o q cp N : Nat} {gs xs l A : List Int} (hn : n ≤ 60) (hi : i < n) (hA : A.length ≤ i) (h : PlayI xs A o q N l) (hl : lowB xs (gs.getD i 0) = false) :
    CodeT Try.prog Try.f3.ntmps 1 (loopOf Try.f3 0) (zipS live3 (st3 a b n i)) (hp3 n gs xs o q cp N l) .normal (zipS live3 (st3 a b n (i + 1))) (hp3 n gs (pushR xs (gs.getD i 0)) (offN q) (lenN q) 1 (q + 1) (curL o q l ++ [gs.getD i 0])) := by
  have hp := h.push (gs.getD i 0)
  have hs := hp.same
  have hn0 := h.ring.num
  have hn1 := hp.ring.num
  have hq := h.q
  have hq1 := hp.q
  have hc := copy9 h.ring.len
  rw [List.length_append, List.length_singleton] at hn1 hq1
  have hnl : ¬ (gs.getD i 0 < 0 ∨ 0 < q ∧ gs.getD i 0 < l.getD (o + (q - 1)) 0) := fun hx => by rw [(h.low _).2 hx] at hl; cases hl
  have hlast := hp.top (by omega)
  have key := @p3a a b n i o q cp N gs xs l
  have e1 : (((lenN q : Nat) : Int) - 1).toNat = lenN q - 1 := by omega
  simp only [hc, hl, cond_false, e1, autoParam] at key
  have hs1 := hs.1
  have hr1 := h.room
  have hr2 := hp.room
  have f0 : 0 ≤ gs.getD i 0 := by
    by_cases h0 : gs.getD i 0 < 0
    · exact (hnl (.inl h0)).elim
    · omega
  have f1 : o + q ≤ N ∧ q ≤ 100 ∧ 0 ≤ gs.getD i 0 ∧ (0 < q → l.getD (o + (q - 1)) 0 ≤ gs.getD i 0) := by
    refine ⟨hr1, by omega, f0, fun h0 => ?_⟩
    by_cases h2 : gs.getD i 0 < l.getD (o + (q - 1)) 0
    · exact (hnl (.inr ⟨h0, h2⟩)).elim
    · omega
  have f2 : (true == decide (((lenN q : Nat) : Int) > 0)) = true := by rw [dec_t (by omega)]; rfl
  refine CodeT.round (S3a_ok.on _) follows_ok loops3i (live := live3) (e := .normal) (vs1 := st3 a b n (i + 1)) (key (fun vs h => some (.at .normal (zipS live3 vs) h)) (fun e vs h => some (.at e (zipS live3 vs) h)) ?_ ?_ ?_ ?_ ?_ ?_ ?_ ?_ ?_ ?_ ?_ ?_ ?_ ?_ ?_ ?_ ?_ ?_ ?_ ?_ ?_ ?_)
  all_goals first | omega | exact hs.2.1 | exact hlast | rfl | trivial | exact f1 | exact f2 | exact congrArg _ (hs.2.2 a b) | exact ⟨trivial, trivial, by omega, trivial, trivial, by omega⟩ | skip
/-- A round that refuses an edge. -/
theorem round3r {a b : Int} {n i o q cp N : Nat} {gs xs l A : List Int} (hn : n ≤ 60) (hi : i < n) (hA : A.length ≤ i) (h : PlayI xs A o q N l) (hl : lowB xs (gs.getD i 0) = true) (h0 : 0 < q) :
    CodeT Try.prog Try.f3.ntmps 1 (loopOf Try.f3 0) (zipS live3 (st3 a b n i)) (hp3 n gs xs o q cp N l) .normal (zipS live3 (st3 a b n (i + 1))) (hp3 n gs xs o q cp N l) := by
  have hs := h.same
  have hn0 := h.ring.num
  have hq := h.q
  have hc := copy9 h.ring.len
  have hlast := h.top h0
  have key := @p3r a b n i o q cp N gs xs l
  have e1 : ((q : Int) - 1).toNat = q - 1 := by omega
  simp only [hc, hl, cond_true, e1, autoParam] at key
  have hs1 := hs.1
  have hr1 := h.room
  have f1 : o + q ≤ N ∧ q ≤ 100 ∧ (gs.getD i 0 < 0 ∨ 0 < q ∧ gs.getD i 0 < l.getD (o + (q - 1)) 0) := ⟨hr1, by omega, (h.low _).1 hl⟩
  have f2 : (true == decide ((q : Int) > 0)) = true := by rw [dec_t (by omega)]; rfl
  refine CodeT.round (S3r_ok.on _) follows_ok loops3i (live := live3) (e := .normal) (vs1 := st3 a b n (i + 1)) (key (fun vs h => some (.at .normal (zipS live3 vs) h)) (fun e vs h => some (.at e (zipS live3 vs) h)) ?_ ?_ ?_ ?_ ?_ ?_ ?_ ?_ ?_ ?_ ?_ ?_ ?_ ?_ ?_ ?_ ?_ ?_ ?_ ?_ ?_ ?_)
  all_goals first | omega | exact hs.2.1 | exact hlast | rfl | trivial | exact f1 | exact f2 | exact congrArg _ (hs.2.2 a b) | exact ⟨trivial, trivial, by omega, trivial, trivial, by omega⟩ | skip
/-- A round that refuses an edge where there is none. -/
theorem round3e {a b : Int} {n i o q cp N : Nat} {gs xs l A : List Int} (hn : n ≤ 60) (hi : i < n) (hA : A.length ≤ i) (h : PlayI xs A o q N l) (hl : lowB xs (gs.getD i 0) = true) (h0 : q = 0) :
    CodeT Try.prog Try.f3.ntmps 1 (loopOf Try.f3 0) (zipS live3 (st3 a b n i)) (hp3 n gs xs o q cp N l) .normal (zipS live3 (st3 a b n (i + 1))) (hp3 n gs xs o q cp N l) := by
  have hs := h.same
  have hn0 := h.ring.num
  have hq := h.q
  have hc := copy9 h.ring.len
  have key := @p3e a b n i o q cp N gs xs l
  simp only [hc, hl, cond_true, autoParam] at key
  have hs1 := hs.1
  have hr1 := h.room
  have f1 : o + q ≤ N ∧ q ≤ 100 ∧ (gs.getD i 0 < 0 ∨ 0 < q ∧ gs.getD i 0 < l.getD (o + (q - 1)) 0) := ⟨hr1, by omega, (h.low _).1 hl⟩
  have f2 : (false == decide ((q : Int) > 0)) = true := by rw [dec_f (by omega)]; rfl
  refine CodeT.round (S3e_ok.on _) follows_ok loops3i (live := live3) (e := .normal) (vs1 := st3 a b n (i + 1)) (key (fun vs h => some (.at .normal (zipS live3 vs) h)) (fun e vs h => some (.at e (zipS live3 vs) h)) ?_ ?_ ?_ ?_ ?_ ?_ ?_ ?_ ?_ ?_ ?_ ?_ ?_ ?_ ?_ ?_ ?_)
  all_goals first | omega | exact hs.2.1 | rfl | trivial | exact f1 | exact f2 | exact congrArg _ (hs.2.2 a b) | exact ⟨trivial, trivial, by omega, trivial, trivial, by omega⟩ | skip
abbrev end3 (n : Nat) (gs : List Int) : Heap := [gI n gs, none, none, none]
theorem loop3 {a b : Int} {n : Nat} {gs : List Int} (hn : n ≤ 60) : ∀ (r i o q cp N : Nat) (xs l A : List Int), i + r = n → A.length ≤ i → PlayI xs A o q N l →
    LoopT Try.prog Try.f3.ntmps 1 (loopOf Try.f3 0) (zipS live3 (st3 a b n i)) (hp3 n gs xs o q cp N l) (.exit 0) (zipS live3 (st3 a b n n)) (end3 n gs) := by
  intro r
  induction r with
  | zero =>
    intro i o q cp N xs l A hi hA h
    obtain rfl : i = n := by omega
    refine LoopT.last (by intro h; cases h) ?_
    refine CodeT.weak (WeakS.refl _ _) (CodeT.round (S3a_ok.on _) follows_ok loops3i (live := live3) (vs1 := st3 a b i i) (p3x a b i i o q cp N gs xs l (fun vs h => some (.at .normal (zipS live3 vs) h)) (fun e vs h => some (.at e (zipS live3 vs) h)))) ?_
    exact ((WeakS.kill _ _ 1).trans (WeakS.kill _ _ 2)).trans (WeakS.kill _ _ 3)
  | succ r ih =>
    intro i o q cp N xs l A hi hA h
    cases hl : lowB xs (gs.getD i 0) with
    | false => exact LoopT.step (round3a hn (by omega) hA h hl) (ih (i + 1) _ _ _ _ _ _ _ (by omega) (by rw [List.length_append, List.length_singleton]; omega) (h.push _))
    | true =>
      by_cases h0 : 0 < q
      · exact LoopT.step (round3r hn (by omega) hA h hl h0) (ih (i + 1) _ _ _ _ _ _ _ (by omega) (by omega) h)
      · exact LoopT.step (round3e hn (by omega) hA h hl (by omega)) (ih (i + 1) _ _ _ _ _ _ _ (by omega) (by omega) h)
noncomputable def L3f : LF := fun vs h k => match vs, h with
  | [.bool false, .pointer (some ⟨1, 0, none⟩), .pointer (some ⟨2, 0, none⟩), .int .i64 a, .int .i64 b, .slice (some ⟨0, 0, none⟩) n 2, .int .i64 n', .int .i64 0],
    [some ⟨false, 1, [.ints .i64 n2 gs]⟩, some ⟨true, 9, [.ints .i64 9 xs]⟩, some ⟨true, 1, [.vals [.slice none 0 0]]⟩] =>
    bif chk (n2 = n ∧ n' = n ∧ n ≤ 60 ∧ xs = zero9) then k (.exit 0) (st3 a b n n) (end3 n gs) else none
  | _, _ => none
noncomputable def L3 : LSpec := oneL 7 live3 L3f
theorem loopOK3 : LoopOK Try.prog Try.f3.ntmps 1 (loopOf Try.f3 0) live3 L3f := by
  refine LoopOK.of_T ?_
  intro vs h k out hk
  unfold L3f at hk
  split at hk
  · rename_i a b n n' n2 gs xs
    obtain ⟨hb, hk2⟩ := bif_t hk
    obtain ⟨rfl, rfl, h3, rfl⟩ := chk_iff.1 hb
    refine ⟨_, _, _, hk2, fun _ => ?_⟩
    refine LoopT.weak ?_ (loop3 h3 n2 0 0 0 1 0 zero9 [] [] (Nat.zero_add _) (Nat.le_refl _) ⟨⟨rfl, rfl, fun j h => by cases h⟩, rfl, Nat.le_refl _, rfl, rfl⟩)
    exact (WeakS.nilS (k := .i64) (es := 1) (own := true) (vs := st3 a b n2 0) (by decide) (.same _ (.same _ (.same _ (.same _ (.same _ (.same _ (.same _ (.same _ .nil))))))))).trans (WeakS.nilC (id := 2) rfl (.none 3 1 .nil))
  · cases hk
theorem loops3 : LoopsOK Try.prog L3 Try.f3.ntmps 1 (bodyOf Try.f3) := loops_one rfl (by kernel_rfl) loopOK3
--CF cf3 (a b : Int) (n : Nat) (gs : List Int) :: fnK Try.prog S3a L3 Try.f3 [sl 0 n 2, w63 a, w63 b] [gI n gs]
theorem cf3 (a b : Int) (n : Nat) (gs : List Int) : fnK Try.prog S3a L3 Try.f3 [sl 0 n 2, w63 a, w63 b] [gI n gs] =
     (bif decide ((↑n : Int) > 60) then some (Res.ret (Value.bool true) [some (Blk.mk false 1 [Seg.ints IntKind.i64 n gs])]) else bif chk (n = n ∧ (↑n : Int) = (↑n : Int) ∧ n ≤ 60 ∧ [0, 0, 0, 0, 0, 0, 0,
     0, 0] = zero9) then some (Res.ret (Value.bool true) [some (Blk.mk false 1 [Seg.ints IntKind.i64 n gs])]) else none) := by kernel_rfl
--CFEND
noncomputable def F3 : FSpec := fun args h k => match args, h with
  | [.slice (some ⟨0, 0, none⟩) n 2, .int .i64 _, .int .i64 _], [some ⟨false, 1, [.ints .i64 m xs]⟩] => bif Nat.beq m n then k (.bool true) [gI m xs] else none
  | _, _ => none
theorem ok3 : EntryOK Try.prog 3 F3 := by
  refine EntryOK.of_fn S3a_ok follows_ok Try.func3 (by kernel_rfl) (by kernel_rfl) ?_
  intro args h k out hF
  unfold F3 at hF
  split at hF
  · rename_i n a b m xs
    obtain ⟨hb, hF2⟩ := bif_t hF
    have := beq_true hb
    subst this
    exact ⟨_, _, hF2, fun _ => ⟨L3, loops3, (cf3 a b _ _).trans (dc (fun _ => rfl) fun c => chk_if ⟨rfl, rfl, by omega, rfl⟩ rfl)⟩⟩
  · cases hF
theorem top3 {n : Nat} {a b : Int} {xs : List Int} {k : Value → Heap → Out} : F3 [sl 0 n 2, w63 a, w63 b] [gI n xs] k = k (.bool true) [gI n xs] := by
  show (bif Nat.beq n n then k (.bool true) [gI n xs] else none) = _
  rw [beq_t rfl]
  exact condT
end Go.Proofs.Ytpidmcpnkfgcjaa.VC
