/- EdgeLast: the law. -/
import Derived.Test.YtpidmcpnkfgcjaaE3
namespace Go.Proofs.Ytpidmcpnkfgcjaa.VC
open Go Go.Proofs

abbrev zero9 : List Int := [0, 0, 0, 0, 0, 0, 0, 0, 0]
def run4 : List Int → Int → List Int → List Int → Int × List Int × List Int
  | [], t, xs, l => (t, xs, l)
  | g :: r, t, xs, l => run4 r (t + g) (pushR xs (t + g)) (l ++ [t + g])
noncomputable def L4f : LF := fun vs h k => match vs, h with
  | [.bool false, .pointer (some ⟨1, 0, none⟩), .slice none 0 0, .int .i64 0, .slice (some ⟨0, 0, none⟩) n 2, .int .i64 n', .int .i64 0], [some ⟨false, 1, [.ints .u32 m gs]⟩, some ⟨true, 9, [.ints .i64 9 xs]⟩] =>
    bif chk (m = n ∧ n' = n ∧ n ≤ 60 ∧ xs = zero9) then
      k (.exit 0) [.bool false, pt 1, sl 2 (run4 gs 0 zero9 []).2.2.length 1, w63 (run4 gs 0 zero9 []).1, sl 0 n 2, w63 n, w63 n] [gU n gs, eB true (run4 gs 0 zero9 []).2.1, oI (run4 gs 0 zero9 []).2.2.length (run4 gs 0 zero9 []).2.2] else none
  | _, _ => none
noncomputable def L4 : LSpec := oneL 7 live4 L4f
--CF cf4 (n : Nat) (gs : List Int) :: fnK Try.prog S4 L4 Try.f4 [sl 0 n 2] [gU n gs]
theorem cf4 (n : Nat) (gs : List Int) : fnK Try.prog S4 L4 Try.f4 [sl 0 n 2] [gU n gs] =
     (bif decide ((↑n : Int) > 60) then some (Res.ret (Value.bool true) [some (Blk.mk false 1 [Seg.ints IntKind.u32 n gs])]) else bif chk (n = n ∧ (↑n : Int) = (↑n : Int) ∧ n ≤ 60 ∧ [0, 0, 0, 0, 0, 0, 0,
     0, 0] = zero9) then bif chk (0 ≤ (run4 gs 0 zero9 []).snd.fst.getD 8 0 ∧ (run4 gs 0 zero9 []).snd.fst.getD 8 0 ≤ 1000) then bif decide (0 ≤ if IntKind.i64.wrap ((↑(run4 gs 0 zero9 []).snd.snd.length :
     Int) - 8) > 0 then IntKind.i64.wrap ((↑(run4 gs 0 zero9 []).snd.snd.length : Int) - 8) else 0) && decide ((if IntKind.i64.wrap ((↑(run4 gs 0 zero9 []).snd.snd.length : Int) - 8) > 0 then
     IntKind.i64.wrap ((↑(run4 gs 0 zero9 []).snd.snd.length : Int) - 8) else 0) ≤ (↑(run4 gs 0 zero9 []).snd.snd.length : Int)) && decide ((↑(run4 gs 0 zero9 []).snd.snd.length : Int) ≤ (↑(run4 gs 0 zero9
     []).snd.snd.length : Int)) then bif chk (0 + (allX (run4 gs 0 zero9 []).snd.fst).length ≤ (allX (run4 gs 0 zero9 []).snd.fst).length ∧ 0 + (if IntKind.i64.wrap ((↑(run4 gs 0 zero9 []).snd.snd.length :
     Int) - 8) > 0 then IntKind.i64.wrap ((↑(run4 gs 0 zero9 []).snd.snd.length : Int) - 8) else 0).toNat * 1 + ((↑(run4 gs 0 zero9 []).snd.snd.length : Int) - if IntKind.i64.wrap ((↑(run4 gs 0 zero9
     []).snd.snd.length : Int) - 8) > 0 then IntKind.i64.wrap ((↑(run4 gs 0 zero9 []).snd.snd.length : Int) - 8) else 0).toNat ≤ (run4 gs 0 zero9 []).snd.snd.length ∧ (allX (run4 gs 0 zero9
     []).snd.fst).length ≤ 1000) then bif (allX (run4 gs 0 zero9 []).snd.fst).length.beq ((↑(run4 gs 0 zero9 []).snd.snd.length : Int) - if IntKind.i64.wrap ((↑(run4 gs 0 zero9 []).snd.snd.length : Int) -
     8) > 0 then IntKind.i64.wrap ((↑(run4 gs 0 zero9 []).snd.snd.length : Int) - 8) else 0).toNat && (run17 (allX (run4 gs 0 zero9 []).snd.fst) 0 (run4 gs 0 zero9 []).snd.snd (0 + (if IntKind.i64.wrap
     ((↑(run4 gs 0 zero9 []).snd.snd.length : Int) - 8) > 0 then IntKind.i64.wrap ((↑(run4 gs 0 zero9 []).snd.snd.length : Int) - 8) else 0).toNat * 1) (allX (run4 gs 0 zero9 []).snd.fst).length 0).fst
     then bif chk (0 ≤ (run4 gs 0 zero9 []).snd.fst.getD 8 0 ∧ (run4 gs 0 zero9 []).snd.fst.getD 8 0 ≤ 1000) then bif (↑(cnt (allX (run4 gs 0 zero9 []).snd.fst) 0 (run4 gs 0 zero9 []).fst) : Int) == if
     (↑(run4 gs 0 zero9 []).snd.snd.length : Int) < 8 then (↑(run4 gs 0 zero9 []).snd.snd.length : Int) else 8 then some (Res.ret (Value.bool true) [some (Blk.mk false 1 [Seg.ints IntKind.u32 n gs])]) else
     some (Res.ret (Value.bool false) [some (Blk.mk false 1 [Seg.ints IntKind.u32 n gs])]) else none else some (Res.ret (Value.bool false) [some (Blk.mk false 1 [Seg.ints IntKind.u32 n gs])]) else none
     else none else none else none) := by kernel_rfl
--CFEND
/-- The log's cells hold the last ones. -/
structure Ring (xs l : List Int) : Prop where
  len : xs.length = 9
  num : xs.getD 8 0 = l.length
  kept : ∀ j, j < l.length → l.length ≤ j + 8 → xs.getD (j % 8) 0 = l.getD j 0
theorem getD_set_eq {l : List Int} {i : Nat} {c : Int} (h : i < l.length) : (l.set i c).getD i 0 = c := by
  rw [List.getD_eq_getElem?_getD, List.getElem?_set_self h, Option.getD_some]
theorem getD_app {l : List Int} {c : Int} {j : Nat} : (l ++ [c]).getD j 0 = if j < l.length then l.getD j 0 else if j = l.length then c else 0 := by
  rw [List.getD_eq_getElem?_getD, List.getD_eq_getElem?_getD]
  split
  · rename_i h; rw [List.getElem?_append_left h]
  · split
    · rename_i h; subst h; rw [List.getElem?_append_right (Nat.le_refl _), Nat.sub_self]; rfl
    · rw [List.getElem?_eq_none (by rw [List.length_append, List.length_singleton]; omega)]; rfl
theorem Ring.push {xs l : List Int} (h : Ring xs l) (c : Int) : Ring (pushR xs c) (l ++ [c]) where
  len := by unfold pushR; rw [List.length_set, List.length_set, h.len]
  num := by unfold pushR; rw [getD_set_eq (by rw [List.length_set, h.len]; omega), h.num, List.length_append]; rfl
  kept := fun j h1 h2 => by
    rw [List.length_append, List.length_singleton] at h1 h2
    unfold pushR
    rw [getD_set_ne (by omega), h.num, show ((l.length : Int) % 8).toNat = l.length % 8 by omega, getD_app]
    by_cases e : j = l.length
    · subst e
      rw [getD_set_eq (by rw [h.len]; omega), if_neg (by omega), if_pos rfl]
    · rw [getD_set_ne (by omega), if_pos (by omega)]
      exact h.kept j (by omega) (by omega)
/-- What holds of the times so far. -/
structure Rising (l : List Int) (t : Int) : Prop where
  low : 0 ≤ t
  top : t ≤ l.length * 4294967296
  last : l ≠ [] → l.getD (l.length - 1) 0 = t
  rng : ∀ x ∈ l, 0 ≤ x ∧ x ≤ t
theorem Rising.next {l : List Int} {t g : Int} (h : Rising l t) (h0 : 0 ≤ g) (h1 : g ≤ 4294967295) : Rising (l ++ [t + g]) (t + g) where
  low := by have := h.low; omega
  top := by have := h.top; rw [List.length_append, List.length_singleton]; omega
  last := fun _ => by rw [List.length_append, List.length_singleton, getD_app, if_neg (by omega), if_pos (by omega)]
  rng := fun x hx => by
    have := h.low
    rcases List.mem_append.1 hx with hx | hx
    · have := h.rng x hx; omega
    · have := List.mem_singleton.1 hx; omega
theorem low_not {xs l : List Int} {t g : Int} (hr : Ring xs l) (h : Rising l t) (h0 : 0 ≤ g) : lowB xs (t + g) = false := by
  have := h.low
  unfold lowB
  rw [dec_f (show ¬ t + g < 0 by omega), Bool.false_or]
  cases h2 : (xs.getD 8 0 == 0) with
  | true => rfl
  | false =>
    have e : xs.getD 8 0 ≠ 0 := by simpa using h2
    rw [hr.num] at e ⊢
    have hl : l.length ≠ 0 := by omega
    rw [show (((l.length : Int) - 1) % 8).toNat = (l.length - 1) % 8 by omega, hr.kept (l.length - 1) (by omega) (by omega), h.last (by intro e; rw [e] at hl; exact hl rfl), dec_f (by omega)]
    rfl
theorem loop4 {n : Nat} {gs : List Int} (hn : n ≤ 60) (hl : gs.length = n) (hg : ∀ g ∈ gs, 0 ≤ g ∧ g ≤ 4294967295) {k : Exit → List Value → Heap → Out} : ∀ (r i : Nat) (t : Int) (xs l : List Int), i + r = n → l.length = i → Ring xs l → Rising l t →
    loopN Try.prog S4 noL Try.f4.ntmps 1 (loopOf Try.f4 0) live4 (r + 1) [.bool false, pt 1, sl 2 l.length 1, w63 t, sl 0 n 2, w63 n, w63 i] [gU n gs, eB true xs, oI l.length l] k =
    k (.exit 0) [.bool false, pt 1, sl 2 (run4 (gs.drop i) t xs l).2.2.length 1, w63 (run4 (gs.drop i) t xs l).1, sl 0 n 2, w63 n, w63 n] [gU n gs, eB true (run4 (gs.drop i) t xs l).2.1, oI (run4 (gs.drop i) t xs l).2.2.length (run4 (gs.drop i) t xs l).2.2] := by
  intro r
  induction r with
  | zero =>
    intro i t xs l hi h1 h2 h3
    refine (loopN_succ ..).trans ((cf4r ..).trans ?_)
    have : i = n := by omega
    rw [dec_f (show ¬ (i : Int) < n by omega), condF, List.drop_of_length_le (by omega), this]
    rfl
  | succ r ih =>
    intro i t xs l hi h1 h2 h3
    refine (loopN_succ ..).trans ((cf4r ..).trans ?_)
    have hd : gs.drop i = gs.getD i 0 :: gs.drop (i + 1) := by
      rw [List.getD_eq_getElem?_getD, List.getElem?_eq_getElem (by omega), Option.getD_some]
      exact List.drop_eq_getElem_cons (by omega)
    have hm : gs.getD i 0 ∈ gs := by
      rw [List.getD_eq_getElem?_getD, List.getElem?_eq_getElem (by omega)]; exact List.getElem_mem ..
    have hb := hg _ hm
    have ht := h3.low
    have ht2 := h3.top
    have hnum := h2.num
    rw [hd, dec_t (show (i : Int) < n by omega), condT, dec_t (show (0 : Int) ≤ i by omega), Bool.and_self, condT, Int.toNat_natCast, Nat.mul_one, Nat.zero_add, blt_t (show i < n by omega), condT, Nat.mul_one,
      show l.length.ble l.length = true from Nat.ble_eq_true_of_le (Nat.le_refl _), condT, dec_t (show (l.length + 1) * 8 ≤ 140737488355328 by omega), Bool.true_and, show (l.length + 1).ble (OfNat.ofNat 4611686018427387904) = true from Nat.ble_eq_true_of_le (by show l.length + 1 ≤ 4611686018427387904; omega), condT, Nat.zero_add, beq_t rfl, Bool.true_and, condT, List.take_of_length_le (Nat.le_refl _)]
    generalize gs.getD i 0 = g at *
    rw [swrap (x := g) (by omega) (by omega), swrap (x := t + g) (by omega) (by omega), chk_t (show 0 ≤ xs.getD 8 0 ∧ xs.getD 8 0 ≤ 1000 by omega), condT, low_not h2 h3 hb.1, condF, snat i (by omega)]
    have q := ih (i + 1) (t + g) (pushR xs (t + g)) (l ++ [t + g]) (by omega) (by rw [List.length_append, List.length_singleton]; omega) (h2.push _) (h3.next hb.1 hb.2)
    rw [show (l ++ [t + g]).length = l.length + 1 by simp] at q
    exact q
theorem run_ok : ∀ (gs : List Int) (t : Int) (xs l : List Int), Ring xs l → Rising l t → (∀ g ∈ gs, 0 ≤ g ∧ g ≤ 4294967295) → Ring (run4 gs t xs l).2.1 (run4 gs t xs l).2.2 ∧ Rising (run4 gs t xs l).2.2 (run4 gs t xs l).1 ∧ (run4 gs t xs l).2.2.length = l.length + gs.length
  | [], _, _, _, h1, h2, _ => ⟨h1, h2, rfl⟩
  | g :: r, t, xs, l, h1, h2, h3 => by
    have hb := h3 g (List.mem_cons_self ..)
    obtain ⟨a, b, c⟩ := run_ok r (t + g) (pushR xs (t + g)) (l ++ [t + g]) (h1.push _) (h2.next hb.1 hb.2) (fun x hx => h3 x (List.mem_cons_of_mem _ hx))
    refine ⟨a, b, ?_⟩
    show (run4 r (t + g) (pushR xs (t + g)) (l ++ [t + g])).2.2.length = _
    rw [c, List.length_append, List.length_singleton, List.length_cons]; omega
theorem run17_t {xs ys : List Int} {p q : Nat} : ∀ (r i : Nat), (∀ j, i ≤ j → j < i + r → xs.getD (p + j) 0 = ys.getD (q + j) 0) → (run17 xs p ys q r i).1 = true
  | 0, _, _ => rfl
  | r + 1, i, h => by
    unfold run17
    rw [h i (Nat.le_refl _) (by omega), bne_self_eq_false, condF]
    exact run17_t r (i + 1) (fun j h1 h2 => h j (by omega) (by omega))
theorem allX_get {xs : List Int} {i : Nat} (h : i < min (xs.getD 8 0).toNat 8) : (allX xs).getD i 0 = xs.getD (((xs.getD 8 0).toNat - 8 + i) % 8) 0 := by
  unfold allX
  rw [List.getD_eq_getElem?_getD, List.getElem?_map, List.getElem?_range' h]
  simp
theorem allX_mem {xs l : List Int} (h : Ring xs l) {x : Int} (hx : x ∈ allX xs) : x ∈ l := by
  unfold allX at hx
  obtain ⟨j, hj, rfl⟩ := List.mem_map.1 hx
  obtain ⟨k, h1, h2⟩ := List.mem_range'.1 hj
  have hn := h.num
  rw [h.kept j (by omega) (by omega), List.getD_eq_getElem?_getD, List.getElem?_eq_getElem (by omega)]
  exact List.getElem_mem ..
theorem law4 {n : Nat} {gs : List Int} (hl : gs.length = n) (hg : ∀ g ∈ gs, 0 ≤ g ∧ g ≤ 4294967295) : fnK Try.prog S4 L4 Try.f4 [sl 0 n 2] [gU n gs] = some (.ret (.bool true) [gU n gs]) := by
  refine (cf4 ..).trans (dc (fun _ => rfl) (fun c1 => ?_))
  refine chk_if ⟨rfl, rfl, by omega, rfl⟩ ?_
  obtain ⟨hr, ht, hlen⟩ := run_ok gs 0 zero9 [] ⟨rfl, rfl, fun j h => by cases h⟩ ⟨Int.le_refl _, Int.le_refl _, fun h => (h rfl).elim, fun x hx => by cases hx⟩ hg
  generalize (run4 gs 0 zero9 []).2.1 = xs at *
  generalize (run4 gs 0 zero9 []).2.2 = l at *
  generalize (run4 gs 0 zero9 []).1 = t at *
  rw [List.length_nil, Nat.zero_add] at hlen
  have hn := hr.num
  have ha : (allX xs).length = min l.length 8 := by rw [allX_len, hn]; rfl
  have em : (if IntKind.i64.wrap ((l.length : Int) - 8) > 0 then IntKind.i64.wrap ((l.length : Int) - 8) else 0) = ((l.length - 8 : Nat) : Int) := by
    rw [swrap (by omega) (by omega)]; split <;> omega
  have hc : cnt (allX xs) 0 t = (allX xs).length := by
    unfold cnt
    rw [List.filter_eq_self.2 (fun x hx => by have := ht.rng x (allX_mem hr hx); rw [dec_t this.1, dec_t this.2]; rfl)]
  have hrun : (run17 (allX xs) 0 l (l.length - 8) (allX xs).length 0).1 = true := by
    refine run17_t _ 0 (fun j _ h2 => ?_)
    rw [Nat.zero_add, allX_get (i := j) (by rw [hn]; omega), hn, Int.toNat_natCast]
    exact hr.kept _ (by omega) (by omega)
  refine chk_if (by omega) ?_
  rw [em, dec_t (show (0 : Int) ≤ ((l.length - 8 : Nat) : Int) by omega), dec_t (show ((l.length - 8 : Nat) : Int) ≤ (l.length : Int) by omega), dec_t (Int.le_refl _), Bool.and_self, Bool.and_self, condT, Int.toNat_natCast, Nat.mul_one, Nat.zero_add]
  refine chk_if ⟨by omega, by omega, by omega⟩ ?_
  rw [beq_t (show (allX xs).length = ((l.length : Int) - ((l.length - 8 : Nat) : Int)).toNat by omega), Nat.zero_add, hrun, Bool.and_self, condT]
  · refine chk_if (by omega) ?_
    have e : ((cnt (allX xs) 0 t : Nat) : Int) = (if (l.length : Int) < 8 then (l.length : Int) else 8) := by
      rw [hc, ha]; split <;> omega
    rw [e, beq_self_eq_true, condT]
theorem S4_ok : SpecOK Try.prog S4 := mkS_cons ok10 (mkS_cons ok11 (mkS_cons ok12 (mkS_cons ok13 (mkS_cons ok15 (mkS_cons ok16 (mkS_cons ok17 (mkS_cons ok18 (mkS_nil _))))))))
theorem loopOK4 : LoopOK Try.prog Try.f4.ntmps 1 (loopOf Try.f4 0) live4 L4f := by
  refine LoopOK.of_rounds_weak S4_ok follows_ok (L := noL) noL_ok ?_
  intro vs h k out hk
  unfold L4f at hk
  split at hk
  · rename_i n n' m gs xs
    obtain ⟨hb, hk2⟩ := bif_t hk
    obtain ⟨rfl, rfl, h3, rfl⟩ := chk_iff.1 hb
    refine ⟨_, _, _, hk2, fun real => ⟨_, _, WeakS.nilS (k := .i64) (es := 1) (own := true) (by decide) (.same _ (.same _ (.none 2 1 (.same _ (.same _ (.same _ (.same _ .nil))))))), m + 1, _, _, ?_, WeakS.refl _ _⟩⟩
    have hs := real.segs (i := 0) rfl _ (List.mem_cons_self ..)
    have := loop4 h3 hs.1 hs.2 (k := fun e vs h => some (.at e (zipS live4 vs) h)) m 0 0 zero9 [] (Nat.zero_add _) rfl ⟨rfl, rfl, fun j h => by cases h⟩ ⟨Int.le_refl _, Int.le_refl _, fun h => (h rfl).elim, fun x hx => by cases hx⟩
    rw [List.drop_zero] at this
    exact this
  · cases hk
theorem loops4 : LoopsOK Try.prog L4 Try.f4.ntmps 1 (bodyOf Try.f4) := loops_one rfl (by kernel_rfl) loopOK4
def F4 : FSpec := fun args h k => match args, h with
  | [.slice (some ⟨0, 0, none⟩) n 2], [some ⟨false, 1, [.ints .u32 m xs]⟩] => bif Nat.beq m n then k (.bool true) [gU m xs] else none
  | _, _ => none
theorem ok4 : EntryOK Try.prog 4 F4 := by
  refine EntryOK.of_fn S4_ok follows_ok Try.func4 (by kernel_rfl) (by kernel_rfl) ?_
  intro args h k out hF
  unfold F4 at hF
  split at hF
  · obtain ⟨hb, hF2⟩ := bif_t hF
    have := beq_true hb
    subst this
    refine ⟨_, _, hF2, fun real => ?_⟩
    have hs := real.segs (i := 0) rfl _ (List.mem_cons_self ..)
    exact ⟨L4, loops4, law4 hs.1 hs.2⟩
  · cases hF
theorem top4 {n : Nat} {xs : List Int} {k : Value → Heap → Out} : F4 [sl 0 n 2] [gU n xs] k = k (.bool true) [gU n xs] := by
  show (bif Nat.beq n n then k (.bool true) [gU n xs] else none) = _
  rw [beq_t rfl]
  exact condT
end Go.Proofs.Ytpidmcpnkfgcjaa.VC
