/- clock: proved; ClockReads: the law. -/
import Derived.Test.YtfgehfnlkakioaaC2
namespace Go.Proofs.Ytfgehfnlkakioaa.VC
open Go Go.Proofs

theorem chkDec {p : Prop} [Decidable p] : chk p = decide p := by
  by_cases h : p
  · rw [chk_t h, decide_eq_true h]
  · rw [decide_eq_false h]
    cases hc : chk p with
    | false => rfl
    | true => exact (h (chk_iff.1 hc)).elim
theorem chkF {p : Prop} (h : ¬ p) : chk p = false := by
  cases hc : chk p with
  | false => rfl
  | true => exact (h (chk_iff.1 hc)).elim
theorem putB {a b : Bool} {h : Heap} (e : a = b) : (some (Res.ret (.bool a) h) : Out) = some (.ret (.bool b) h) := by rw [e]
theorem inB_iff {c t e : Int} : inB c t e = true ↔ (0 ≤ c ∧ 0 ≤ t ∧ t ≤ 6000000000000000000 ∧ 0 ≤ e ∧ e ≤ 2305843009213693952) := chk_iff
theorem in_law {c t e : Int} : (bif decide (c ≥ 0) then bif decide (t ≥ 0) then bif decide (t ≤ 6000000000000000000) then bif decide (e ≥ 0) then some (Res.ret (Value.bool (decide (e ≤ 2305843009213693952))) []) else some (Res.ret
     (Value.bool false) []) else some (Res.ret (Value.bool false) []) else some (Res.ret (Value.bool false) []) else some (Res.ret (Value.bool false) []) : Out) = some (.ret (.bool (inB c t e)) []) := by
  refine dc (fun c1 => dc (fun c2 => dc (fun c3 => dc (fun c4 => putB ?_) (fun c4 => putB ?_)) (fun c3 => putB ?_)) (fun c2 => putB ?_)) (fun c1 => putB ?_)
  · unfold inB; rw [chkDec]; exact decide_eq_decide.2 (by omega)
  all_goals exact (chkF (by omega)).symm
theorem ok110 : EntryOK Try.prog 110 F110 := by
  refine EntryOK.of_fn (mkS_nil _) follows_ok Try.func110 (by kernel_rfl) (by kernel_rfl) ?_
  intro args h k out hF
  unfold F110 at hF
  split at hF
  · exact ⟨_, _, hF, fun _ => ⟨noL, noL_ok, (cf110 ..).trans in_law⟩⟩
  · cases hF
theorem ok83 : EntryOK Try.prog 83 F110 := by
  refine EntryOK.of_fn (mkS_nil _) follows_ok Try.func83 (by kernel_rfl) (by kernel_rfl) ?_
  intro args h k out hF
  unfold F110 at hF
  split at hF
  · exact ⟨_, _, hF, fun _ => ⟨noL, noL_ok, (cf83 ..).trans in_law⟩⟩
  · cases hF

theorem upR {rho : Int} (h : 1 ≤ rho ∧ rho ≤ 500) : 1 ≤ upI rho 4294967296 1000000 ∧ upI rho 4294967296 1000000 ≤ 2147484 := by
  unfold upI
  rw [if_neg (by decide), hold_id (by omega)]
  omega
theorem tdiv16 {R : Int} (h : 1 ≤ R) : R.tdiv 16 = R / 16 := Int.tdiv_eq_ediv_of_nonneg (by omega)
theorem may_iff {rho R P Q F D C T E : Int} {s : Bool} : mayK rho R P Q F D s C T E = true ↔ (1 ≤ rho ∧ rho ≤ 500 ∧ R = upI rho 4294967296 1000000 ∧ mayB R P Q F = true ∧ -(R / 16) ≤ D ∧ D ≤ R / 16 ∧ (s = true → inB C T E = true) ∧ (s = false → C = 0 ∧ T = 0 ∧ E = 0)) := chk_iff
theorem may_in {rho R P Q F D C T E : Int} {s : Bool} (h1 : 1 ≤ rho) (h2 : rho ≤ 500) (h3 : R = upI rho 4294967296 1000000) (h4 : mayB R P Q F = true) (h5 : -(R / 16) ≤ D) (h6 : D ≤ R / 16) :
    mayK rho R P Q F D s C T E = bif s then inB C T E else decide (C = 0) && decide (T = 0) && decide (E = 0) := by
  cases s with
  | true =>
    cases hi : inB C T E with
    | true => exact chk_t ⟨h1, h2, h3, h4, h5, h6, fun _ => hi, (fun h => by cases h)⟩
    | false => exact chkF (fun h => by have := h.2.2.2.2.2.2.1 rfl; rw [hi] at this; cases this)
  | false =>
    by_cases hc : C = 0 ∧ T = 0 ∧ E = 0
    · rw [show mayK rho R P Q F D false C T E = true from chk_t ⟨h1, h2, h3, h4, h5, h6, (fun h => by cases h), fun _ => hc⟩]
      simp [hc]
    · rw [show mayK rho R P Q F D false C T E = false from chkF (fun h => hc (h.2.2.2.2.2.2.2 rfl))]
      symm
      simp only [condF]
      simpa using hc
theorem beI (a b : Int) : (a == b) = decide (a = b) := by
  by_cases h : a = b
  · rw [h]; simp
  · rw [decide_eq_false h]; exact beq_eq_false_iff_ne.2 h
theorem zero3 {C T E : Int} : (bif C == 0 then bif T == 0 then some (Res.ret (Value.bool (E == 0)) []) else some (Res.ret (Value.bool false) []) else some (Res.ret (Value.bool false) []) : Out) = some (.ret (.bool (decide (C = 0) && decide (T = 0) && decide (E = 0))) []) := by
  simp only [beI]
  by_cases h1 : C = 0 <;> by_cases h2 : T = 0 <;> by_cases h3 : E = 0 <;> simp [h1, h2, h3]
theorem S72_ok : SpecOK Try.prog S72 := (mkS_cons ok50 (mkS_cons ok53 (mkS_cons ok110 (mkS_nil _))))
theorem ok72 : EntryOK Try.prog 72 F72 := by
  refine EntryOK.of_fn S72_ok follows_ok Try.func72 (by kernel_rfl) (by kernel_rfl) ?_
  intro args h k out hF
  unfold F72 at hF
  split at hF
  · rename_i rho R P Q F D s C T E
    refine ⟨_, _, hF, fun _ => ⟨noL, noL_ok, (cf72 ..).trans ?_⟩⟩
    refine bc (fun c1 => ?_) (fun c1 => putB (chkF (fun h => by simp [h.1, h.2.1] at c1)).symm)
    simp only [Bool.and_eq_true, decide_eq_true_eq] at c1
    obtain ⟨u1, u2⟩ := upR c1
    refine bc (fun c2 => putB (chkF (fun h => by simp [h.2.2.1] at c2)).symm) (fun c2 => ?_)
    have e2 : R = upI rho 4294967296 1000000 := by simpa using c2
    rw [← e2] at u1 u2 ⊢
    refine bc (fun c3 => putB (chkF (fun h => by simp [h.2.2.2.1] at c3)).symm) (fun c3 => ?_)
    have e3 : mayB R P Q F = true := by simpa using c3
    rw [tdiv16 u1, swrap (x := R / 16) (by omega) (by omega), swrap (x := 0 - R / 16) (by omega) (by omega)]
    refine dc (fun c4 => putB (chkF (fun h => by omega)).symm) (fun c4 => dc (fun c5 => putB (chkF (fun h => by omega)).symm) (fun c5 => ?_))
    rw [may_in c1.1 c1.2 e2 e3 (by omega) (by omega)]
    cases s with
    | true => rfl
    | false => simp only [Bool.not_false, condT, condF]; exact zero3
  · cases hF
theorem S79_ok : SpecOK Try.prog S79 := (mkS_cons ok51 (mkS_cons ok54 (mkS_cons ok83 (mkS_nil _))))
theorem ok79 : EntryOK Try.prog 79 F72 := by
  refine EntryOK.of_fn S79_ok follows_ok Try.func79 (by kernel_rfl) (by kernel_rfl) ?_
  intro args h k out hF
  unfold F72 at hF
  split at hF
  · rename_i rho R P Q F D s C T E
    refine ⟨_, _, hF, fun _ => ⟨noL, noL_ok, (cf79 ..).trans ?_⟩⟩
    refine dc (fun c1 => putB (chkF (fun h => by omega)).symm) (fun c1 => dc (fun c1' => putB (chkF (fun h => by omega)).symm) (fun c1' => ?_))
    obtain ⟨u1, u2⟩ := upR (rho := rho) ⟨by omega, by omega⟩
    refine bc (fun c2 => putB (chkF (fun h => by simp [h.2.2.1] at c2)).symm) (fun c2 => ?_)
    have e2 : R = upI rho 4294967296 1000000 := by simpa using c2
    rw [← e2] at u1 u2 ⊢
    refine bc (fun c3 => putB (chkF (fun h => by simp [h.2.2.2.1] at c3)).symm) (fun c3 => ?_)
    have e3 : mayB R P Q F = true := by simpa using c3
    rw [tdiv16 u1, swrap (x := R / 16) (by omega) (by omega), swrap (x := 0 - R / 16) (by omega) (by omega)]
    refine dc (fun c4 => putB (chkF (fun h => by omega)).symm) (fun c4 => dc (fun c5 => putB (chkF (fun h => by omega)).symm) (fun c5 => ?_))
    rw [may_in (by omega) (by omega) e2 e3 (by omega) (by omega)]
    cases s with
    | true => rfl
    | false => simp only [condF]; exact zero3
  · cases hF

theorem S107g_ok : SpecOK Try.prog S107g := (mkS_cons ok19 (mkS_cons ok23 (mkS_cons ok34 (mkS_nil _))))
theorem ok107g : EntryOK Try.prog 107 F107g := by
  refine EntryOK.of_fn S107g_ok follows_ok Try.func107 (by kernel_rfl) (by kernel_rfl) ?_
  intro args h k out hF
  unfold F107g at hF
  split at hF
  · rename_i f d x r
    obtain ⟨hb, hF2⟩ := bif_t hF
    have hb := of_decide_eq_true hb
    refine ⟨_, _, hF2, fun real => ⟨noL, noL_ok, ?_⟩⟩
    have hr := i64r real 3 rfl
    rw [cf107g, swrap (x := 0 - r) (by omega) (by omega), Int.zero_sub]
    rfl
  · cases hF
theorem down_rng (a b d : Int) : -9223372036854775808 ≤ downI a b d ∧ downI a b d ≤ 9223372036854775807 := by
  unfold downI
  split
  · omega
  · exact hold_rng _
theorem up_rng (a b d : Int) : -9223372036854775808 ≤ upI a b d ∧ upI a b d ≤ 9223372036854775807 := by
  unfold upI
  split
  · omega
  · exact hold_rng _
theorem S112_ok : SpecOK Try.prog S112 := (mkS_cons ok20 (mkS_cons ok29 (mkS_cons ok31 (mkS_cons ok35 (mkS_nil _)))))
theorem ok112 : EntryOK Try.prog 112 F107g := by
  refine EntryOK.of_fn S112_ok follows_ok Try.func112 (by kernel_rfl) (by kernel_rfl) ?_
  intro args h k out hF
  unfold F107g at hF
  split at hF
  · rename_i f d x r
    obtain ⟨hb, hF2⟩ := bif_t hF
    have hb := of_decide_eq_true hb
    refine ⟨_, _, hF2, fun real => ⟨noL, noL_ok, ?_⟩⟩
    have hf := i64r real 0 rfl
    have hr := i64r real 3 rfl
    have hd := down_rng d x 3600000000000
    rw [cf112]
    simp only [condF]
    unfold laterZ
    generalize downI d x 3600000000000 = w at *
    simp (disch := omega) only [numW_digits, sgn_self, nb4, lb4, ble_self, Bool.and_self, condT]
    rw [swrap (x := 0 - r) (by omega) (by omega), Int.zero_sub]
    generalize hold (f + w) = y
    have put : ∀ {a b : Int}, a = b → (some (Res.ret (w63 a) []) : Out) = some (Res.ret (w63 b) []) := fun e => by rw [e]
    unfold clampI
    refine dc (fun c => put ?_) (fun c => dc (fun c2 => put ?_) (fun c2 => put ?_))
    · rw [if_pos c]
    · rw [if_neg c, if_pos c2]
    · rw [if_neg c, if_neg c2]
  · cases hF

theorem getD_drop {xs : List Int} {i : Nat} (hi : i < xs.length) : xs.drop i = xs.getD i 0 :: xs.drop (i + 1) := by
  rw [List.getD_eq_getElem?_getD, List.getElem?_eq_getElem hi, Option.getD_some]
  exact List.drop_eq_getElem_cons hi
theorem S117_ok : SpecOK Try.prog S117 := mkS_cons ok23 (mkS_nil _)
theorem loop117 {n c : Nat} {xs : List Int} (hn : n ≤ 1000000) (hl : xs.length = n) {k : Exit → List Value → Heap → Out} :
    ∀ (r i : Nat) (s : Int), i + r = n + 1 → r ≠ 0 →
      loopN Try.prog S117 noL Try.f117.ntmps 1 (loopOf Try.f117 0) live117 r [w63 s, sl 0 n c, w63 n, w63 i] [r64 n xs] k = k (.exit 0) [w63 (sumH (xs.drop i) s), sl 0 n c, w63 n, w63 n] [r64 n xs] := by
  intro r
  induction r with
  | zero => intro i s _ h; exact (h rfl).elim
  | succ r ih =>
    intro i s hir _
    refine (loopN_succ ..).trans ((cf117r ..).trans ?_)
    simp only [Int.toNat_natCast, Nat.mul_one, Nat.zero_add]
    by_cases hi : i < n
    · have q := ih (i + 1) (hold (s + xs.getD i 0)) (by omega) (by omega)
      rw [getD_drop (by omega)]
      simp only [dec_t (show (i : Int) < n by omega), dec_t (show (0 : Int) ≤ i by omega), blt_t hi, Bool.and_self, condT, snat i (by omega)]
      exact q
    · have : i = n := by omega
      subst this
      rw [dec_f (show ¬ (i : Int) < (i : Nat) by omega), condF, List.drop_of_length_le (by omega)]
      rfl
theorem loopOK117 : LoopOK Try.prog Try.f117.ntmps 1 (loopOf Try.f117 0) live117 L117f := by
  refine LoopOK.of_rounds S117_ok follows_ok (L := noL) noL_ok ?_
  intro vs h k out hk
  unfold L117f at hk
  split at hk
  · rename_i s n c n' m xs
    obtain ⟨hb, hk2⟩ := bif_t hk
    simp only [Bool.and_eq_true, decide_eq_true_eq] at hb
    obtain ⟨⟨h1, h2⟩, rfl⟩ := hb
    have h1 := beq_true h1
    subst h1
    refine ⟨_, _, _, hk2, fun real => ?_⟩
    have hl := real.wseg (i := 0) rfl
    have := loop117 (c := c) (ble_true h2) hl (k := fun e vs h => some (.at e (zipS live117 vs) h)) _ 0 s (Nat.zero_add _) (by omega)
    rw [List.drop_zero] at this
    exact ⟨_, this⟩
  · cases hk
theorem loops117 : LoopsOK Try.prog L117 Try.f117.ntmps 1 (bodyOf Try.f117) := loops_one rfl (by kernel_rfl) loopOK117
theorem ok117 : EntryOK Try.prog 117 F117 := by
  refine EntryOK.of_fn S117_ok follows_ok Try.func117 (by kernel_rfl) (by kernel_rfl) ?_
  intro args h k out hF
  unfold F117 at hF
  split at hF
  · rename_i n c m xs
    obtain ⟨hb, hF2⟩ := bif_t hF
    simp only [Bool.and_eq_true] at hb
    have h1 := beq_true hb.1
    subst h1
    refine ⟨_, _, hF2, fun _ => ⟨L117, loops117, (cf117 ..).trans ?_⟩⟩
    rw [hb.1, hb.2, dec_t rfl]
    rfl
  · cases hF
theorem S113_ok : SpecOK Try.prog S113 := mkS_cons ok29 (mkS_cons ok31 (mkS_cons ok35 (mkS_nil _)))
theorem loop113 {n c : Nat} {xs : List Int} (hn : n ≤ 1000000) (hl : xs.length = n) (hx : ∀ x ∈ xs, -9223372036854775808 ≤ x ∧ x ≤ 9223372036854775807) {k : Exit → List Value → Heap → Out} :
    ∀ (r i : Nat) (s : Int), -9223372036854775808 ≤ s ∧ s ≤ 9223372036854775807 → i + r = n + 1 → r ≠ 0 →
      loopN Try.prog S113 noL Try.f113.ntmps 1 (loopOf Try.f113 0) live113 r [sl 0 n c, w63 s, w63 i] [r64 n xs] k = k (.exit 0) [sl 0 n c, w63 (sumH (xs.drop i) s), w63 n] [r64 n xs] := by
  intro r
  induction r with
  | zero => intro i s _ _ h; exact (h rfl).elim
  | succ r ih =>
    intro i s hs hir _
    refine (loopN_succ ..).trans ((cf113r ..).trans ?_)
    simp only [Int.toNat_natCast, Nat.mul_one, Nat.zero_add]
    by_cases hi : i < n
    · have q := ih (i + 1) (hold (s + xs.getD i 0)) (hold_rng _) (by omega) (by omega)
      rw [getD_drop (by omega)]
      have hv : -9223372036854775808 ≤ xs.getD i 0 ∧ xs.getD i 0 ≤ 9223372036854775807 := hx _ (by
        rw [List.getD_eq_getElem?_getD, List.getElem?_eq_getElem (by omega)]; exact List.getElem_mem _)
      generalize xs.getD i 0 = v at *
      simp only [dec_t (show (i : Int) < n by omega), dec_t (show (0 : Int) ≤ i by omega), blt_t hi, Bool.and_self, condT, snat i (by omega)]
      simp (disch := omega) only [numW_digits, sgn_self, nb4, lb4, ble_self, Bool.and_self, condT]
      exact q
    · have : i = n := by omega
      subst this
      rw [dec_f (show ¬ (i : Int) < (i : Nat) by omega), condF, List.drop_of_length_le (by omega)]
      rfl
theorem loopOK113 : LoopOK Try.prog Try.f113.ntmps 1 (loopOf Try.f113 0) live113 L113f := by
  refine LoopOK.of_rounds S113_ok follows_ok (L := noL) noL_ok ?_
  intro vs h k out hk
  unfold L113f at hk
  split at hk
  · rename_i n c s m xs
    obtain ⟨hb, hk2⟩ := bif_t hk
    simp only [Bool.and_eq_true] at hb
    have h1 := beq_true hb.1
    subst h1
    refine ⟨_, _, _, hk2, fun real => ?_⟩
    have hl := real.wseg (i := 0) rfl
    have hs : -9223372036854775808 ≤ s ∧ s ≤ 9223372036854775807 := real.int (t := 3) rfl
    have hx := ((real.segs (i := 0) rfl) _ (List.mem_singleton.2 rfl)).2
    have := loop113 (c := c) (ble_true hb.2) hl hx (k := fun e vs h => some (.at e (zipS live113 vs) h)) _ 0 _ hs (Nat.zero_add _) (by omega)
    rw [List.drop_zero] at this
    exact ⟨_, this⟩
  · cases hk
theorem loops113 : LoopsOK Try.prog L113 Try.f113.ntmps 1 (bodyOf Try.f113) := loops_one rfl (by kernel_rfl) loopOK113
theorem ok113 : EntryOK Try.prog 113 F117 := by
  refine EntryOK.of_fn S113_ok follows_ok Try.func113 (by kernel_rfl) (by kernel_rfl) ?_
  intro args h k out hF
  unfold F117 at hF
  split at hF
  · rename_i n c m xs
    obtain ⟨hb, hF2⟩ := bif_t hF
    simp only [Bool.and_eq_true] at hb
    have h1 := beq_true hb.1
    subst h1
    refine ⟨_, _, hF2, fun _ => ⟨L113, loops113, (cf113 ..).trans ?_⟩⟩
    rw [hb.1, hb.2]
    rfl
  · cases hF
end Go.Proofs.Ytfgehfnlkakioaa.VC
