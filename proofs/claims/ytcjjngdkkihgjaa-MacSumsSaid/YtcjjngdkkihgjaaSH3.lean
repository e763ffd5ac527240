/- SHA-256: the document's small functions. -/
import Derived.Test.YtcjjngdkkihgjaaSH2
namespace Go.Proofs.Ytcjjngdkkihgjaa.VC
open Go Go.Proofs

theorem pow_le62 {n : Nat} (h : n ≤ 62) : (1 : Int) ≤ 2 ^ n ∧ (2 : Int) ^ n ≤ 4611686018427387904 := by
  have h1 : 2 ^ n ≤ 2 ^ 62 := Nat.pow_le_pow_right (by decide) h
  have h2 : 1 ≤ 2 ^ n := Nat.one_le_two_pow
  rw [pow_cast]
  exact ⟨Int.ofNat_le.2 h2, Int.ofNat_le.2 (show 2 ^ n ≤ 4611686018427387904 from h1)⟩
theorem loopTw (n : Nat) (hn : n ≤ 62) : ∀ (m i : Nat), i + m = n →
    LoopT Try.prog Try.f79.ntmps 0 (loopOf Try.f79 0) (zipS liveTw [w63 0, w63 n, w63 (2 ^ i), w63 i]) [] (.exit 0) (zipS liveTw [w63 0, w63 n, w63 (2 ^ n), w63 n]) [] := by
  intro m
  induction m with
  | zero =>
    intro i hi
    obtain rfl : i = n := hi
    exact LoopT.last (by simp) (CodeT.out (S := (mkS []).on [(7, false)]) mk0 noL_ok (fun on out => pTwx i (2 ^ i) i on out))
  | succ m ih =>
    intro i hi
    have h1 := pow_le62 (n := i) (by omega)
    have h2 := pow_le62 (n := i + 1) (by omega)
    have h3 : (2 : Int) ^ (i + 1) = 2 ^ i * 2 := Int.pow_succ ..
    have h4 := ih (i + 1) (by omega)
    rw [h3] at h4 h2
    exact LoopT.step (CodeT.on (S := (mkS []).on [(7, true)]) mk0 noL_ok (fun on out => pTw n (2 ^ i) i on out (by omega) (by omega) (by omega))) h4
noncomputable def LTwf : LF := fun vs h k => match vs, h with
  | [.int .i64 0, .int .i64 n, .int .i64 1, .int .i64 0], [] => bif chk (0 ≤ n ∧ n ≤ 62) then k (.exit 0) [w63 0, w63 n, w63 (2 ^ n.toNat), w63 n] [] else none
  | _, _ => none
noncomputable def LTw : LSpec := oneL 3 liveTw LTwf
theorem loopOKTw : LoopOK Try.prog Try.f79.ntmps 0 (loopOf Try.f79 0) liveTw LTwf := by
  refine LoopOK.of_T ?_
  intro vs h k out hk
  unfold LTwf at hk
  split at hk
  · obtain ⟨hb, hk2⟩ := bif_t hk
    obtain ⟨h1, h2⟩ := chk_iff.1 hb
    rename_i n
    refine ⟨_, _, _, hk2, fun _ => ?_⟩
    obtain ⟨n, rfl⟩ := Int.eq_ofNat_of_zero_le h1
    exact loopTw n (by omega) n 0 (Nat.zero_add _)
  · cases hk
theorem loopsTw : LoopsOK Try.prog LTw Try.f79.ntmps 0 (bodyOf Try.f79) := loops_one rfl (by kernel_rfl) loopOKTw
--CP cTwo (n : Int) :: fnK Try.prog (mkS []) LTw Try.f79 [w63 n] []
theorem cTwo (n : Int)
    (h1 : (0 : Int) ≤ n ∧ n ≤ (62 : Int) := by first | omega | assumption | rfl | ((repeat' with_reducible apply And.intro) <;> first | rfl | assumption | omega)) : fnK Try.prog (mkS []) LTw Try.f79 [w63 n] [] =
     (some (Res.ret (Value.int IntKind.i64 ((2 : Int) ^ n.toNat)) [])) :=
  Eq.trans (by kernel_rfl) (go_t (chk_t h1) rfl)
--CFEND
noncomputable def FTwo : FSpec := fun args h k => match args, h with
  | [.int .i64 n], [] => bif chk (0 ≤ n ∧ n ≤ 62) then k (w63 (2 ^ n.toNat)) [] else none
  | _, _ => none
theorem okTwo : EntryOK Try.prog 79 FTwo := by
  refine EntryOK.of_paths (fn := Try.f79) follows_ok Try.func79 (by kernel_rfl) (by kernel_rfl) ?_
  intro args h k out hF
  unfold FTwo at hF
  split at hF
  · obtain ⟨hb, hF2⟩ := bif_t hF
    exact ⟨_, _, hF2, fun _ => ⟨mkS [], LTw, mk0, loopsTw, cTwo _ (chk_iff.1 hb)⟩⟩
  · cases hF
noncomputable def STwo : Spec := mkS [(79, false, FTwo)]
theorem STwo_ok : SpecOK Try.prog STwo := mkS_cons okTwo (mkS_nil _)
--CP cTrd (x n : Int) :: fnK Try.prog STwo noL Try.f105 [w63 x, w63 n] []
theorem cTrd (x n : Int)
    (w1 : -9223372036854775808 ≤ (32 : Int) - n ∧ (32 : Int) - n ≤ 9223372036854775807 := by omega)
    (w2 : -9223372036854775808 ≤ x.tdiv ((2 : Int) ^ n.toNat) ∧ x.tdiv ((2 : Int) ^ n.toNat) ≤ 9223372036854775807 := by omega)
    (w3 : -9223372036854775808 ≤ x.tmod ((2 : Int) ^ n.toNat) * (2 : Int) ^ ((32 : Int) - n).toNat ∧ x.tmod ((2 : Int) ^ n.toNat) * (2 : Int) ^ ((32 : Int) - n).toNat ≤ 9223372036854775807 := by omega)
    (w4 : -9223372036854775808 ≤ x.tdiv ((2 : Int) ^ n.toNat) + x.tmod ((2 : Int) ^ n.toNat) * (2 : Int) ^ ((32 : Int) - n).toNat ∧ x.tdiv ((2 : Int) ^ n.toNat) + x.tmod ((2 : Int) ^ n.toNat) * (2 : Int) ^ ((32 : Int) - n).toNat ≤ 9223372036854775807 := by omega)
    (h1 : (0 : Int) ≤ n ∧ n ≤ (62 : Int) := by first | omega | assumption | rfl | ((repeat' with_reducible apply And.intro) <;> first | rfl | assumption | omega))
    (h2 : ¬(2 : Int) ^ n.toNat = (0 : Int) := by first | omega | assumption | rfl)
    (h3 : (0 : Int) ≤ (32 : Int) - n ∧ (32 : Int) - n ≤ (62 : Int) := by first | omega | assumption | rfl | ((repeat' with_reducible apply And.intro) <;> first | rfl | assumption | omega)) : fnK Try.prog STwo noL Try.f105 [w63 x, w63 n] [] =
     (some (Res.ret (Value.int IntKind.i64 (x.tdiv ((2 : Int) ^ n.toNat) + x.tmod ((2 : Int) ^ n.toNat) * (2 : Int) ^ ((32 : Int) - n).toNat)) [])) :=
  Eq.trans (b :=
     bif chk ((0 : Int) ≤ n ∧ n ≤ (62 : Int)) then bif decide ((2 : Int) ^ n.toNat = (0 : Int)) then none else bif chk ((0 : Int) ≤ n ∧ n ≤ (62 : Int)) then bif decide ((2 : Int) ^ n.toNat = (0 : Int))
     then none else bif chk ((0 : Int) ≤ IntKind.i64.wrap ((32 : Int) - n) ∧ IntKind.i64.wrap ((32 : Int) - n) ≤ (62 : Int)) then some (Res.ret (Value.int IntKind.i64 (IntKind.i64.wrap (IntKind.i64.wrap
     (x.tdiv ((2 : Int) ^ n.toNat)) + IntKind.i64.wrap (x.tmod ((2 : Int) ^ n.toNat) * (2 : Int) ^ (IntKind.i64.wrap ((32 : Int) - n)).toNat)))) []) else none else none else none) (by kernel_rfl) (by simp only [-eq_self, swrap w1.1 w1.2, swrap w2.1 w2.2, swrap w3.1 w3.2, swrap w4.1 w4.2]; exact (go_t (chk_t h1) (go_f (dec_f h2) (go_t (chk_t h1) (go_f (dec_f h2) (go_t (chk_t h3) rfl))))))
--CFEND
noncomputable def FTrd : FSpec := fun args h k => match args, h with
  | [.int .i64 x, .int .i64 n], [] => bif chk (W32 x ∧ 1 ≤ n ∧ n ≤ 31) then k (w63 (rotr x n.toNat)) [] else none
  | _, _ => none
theorem okTrd : EntryOK Try.prog 105 FTrd := by
  refine EntryOK.of_paths (fn := Try.f105) follows_ok Try.func105 (by kernel_rfl) (by kernel_rfl) ?_
  intro args h k out hF
  unfold FTrd at hF
  split at hF
  · obtain ⟨hb, hF2⟩ := bif_t hF
    obtain ⟨hx, h1, h2⟩ := chk_iff.1 hb
    rename_i x n
    obtain ⟨n, rfl⟩ := Int.eq_ofNat_of_zero_le (show 0 ≤ n by omega)
    refine ⟨_, _, hF2, fun _ => ⟨STwo, noL, STwo_ok, noL_ok, ?_⟩⟩
    have p1 := pow_le62 (n := n) (by omega)
    have hr := hx.rotr (n := n) (by omega)
    have hs := hx.shr n
    have e0 : (32 - (n : Int)).toNat = 32 - n := by omega
    have e1 : x.tdiv (2 ^ n) = x / 2 ^ n := Int.tdiv_eq_ediv_of_nonneg hx.1
    have e2 : x.tmod (2 ^ n) = x % 2 ^ n := Int.tmod_eq_emod_of_nonneg hx.1
    have hr1 := hr.1
    have hr2 := hr.2
    have hs1 := hs.1
    unfold rotr at hr1 hr2 ⊢
    have hm : 0 ≤ x % 2 ^ n * 2 ^ (32 - n) := Int.mul_nonneg (Int.emod_nonneg _ (by omega)) (Int.le_of_lt (Int.pow_pos (by decide)))
    have := @cTrd x n
    simp only [autoParam, Int.toNat_natCast, e0, e1, e2] at this
    exact this (by omega) (by omega) (by omega) (by omega) ⟨by omega, by omega⟩ (by omega) ⟨by omega, by omega⟩
  · cases hF
noncomputable def SThr : Spec := mkS [(79, false, FTwo), (105, false, FTrd), (106, false, FXo)]
theorem SThr_ok : SpecOK Try.prog SThr := mkS_cons okTwo (mkS_cons okTrd (mkS_cons okXo (mkS_nil _)))
--CP cThrT (x a b c : Int) :: fnK Try.prog SThr noL Try.f76 [w63 x, w63 a, w63 b, w63 c, .bool true] []
theorem cThrT (x a b c : Int)
    (w1 : -9223372036854775808 ≤ x.tdiv ((2 : Int) ^ c.toNat) ∧ x.tdiv ((2 : Int) ^ c.toNat) ≤ 9223372036854775807 := by omega)
    (h1 : W32 x ∧ (1 : Int) ≤ c ∧ c ≤ (31 : Int) := by first | omega | assumption | rfl | ((repeat' with_reducible apply And.intro) <;> first | rfl | assumption | omega))
    (h2 : (0 : Int) ≤ c ∧ c ≤ (62 : Int) := by first | omega | assumption | rfl | ((repeat' with_reducible apply And.intro) <;> first | rfl | assumption | omega))
    (h3 : ¬(2 : Int) ^ c.toNat = (0 : Int) := by first | omega | assumption | rfl)
    (h4 : W32 x ∧ (1 : Int) ≤ a ∧ a ≤ (31 : Int) := by first | omega | assumption | rfl | ((repeat' with_reducible apply And.intro) <;> first | rfl | assumption | omega))
    (h5 : W32 x ∧ (1 : Int) ≤ b ∧ b ≤ (31 : Int) := by first | omega | assumption | rfl | ((repeat' with_reducible apply And.intro) <;> first | rfl | assumption | omega))
    (h6 : W32 (rotr x a.toNat) ∧ W32 (rotr x b.toNat) := by first | omega | assumption | rfl | ((repeat' with_reducible apply And.intro) <;> first | rfl | assumption | omega))
    (h7 : W32 (xo (rotr x a.toNat) (rotr x b.toNat)) ∧ W32 (x.tdiv ((2 : Int) ^ c.toNat)) := by first | omega | assumption | rfl | ((repeat' with_reducible apply And.intro) <;> first | rfl | assumption | omega)) : fnK Try.prog SThr noL Try.f76 [w63 x, w63 a, w63 b, w63 c, .bool true] [] =
     (some (Res.ret (Value.int IntKind.i64 (xo (xo (rotr x a.toNat) (rotr x b.toNat)) (x.tdiv ((2 : Int) ^ c.toNat)))) [])) :=
  Eq.trans (b :=
     bif chk (W32 x ∧ (1 : Int) ≤ c ∧ c ≤ (31 : Int)) then bif chk ((0 : Int) ≤ c ∧ c ≤ (62 : Int)) then bif decide ((2 : Int) ^ c.toNat = (0 : Int)) then none else bif chk (W32 x ∧ (1 : Int) ≤ a ∧ a ≤ (31
     : Int)) then bif chk (W32 x ∧ (1 : Int) ≤ b ∧ b ≤ (31 : Int)) then bif chk (W32 (rotr x a.toNat) ∧ W32 (rotr x b.toNat)) then bif chk (W32 (xo (rotr x a.toNat) (rotr x b.toNat)) ∧ W32
     (IntKind.i64.wrap (x.tdiv ((2 : Int) ^ c.toNat)))) then some (Res.ret (Value.int IntKind.i64 (xo (xo (rotr x a.toNat) (rotr x b.toNat)) (IntKind.i64.wrap (x.tdiv ((2 : Int) ^ c.toNat))))) []) else
     none else none else none else none else none else none) (by kernel_rfl) (by simp only [-eq_self, swrap w1.1 w1.2]; exact (go_t (chk_t h1) (go_t (chk_t h2) (go_f (dec_f h3) (go_t (chk_t h4) (go_t (chk_t h5) (go_t (chk_t h6) (go_t (chk_t h7) rfl))))))))
--CFEND
--CP cThrF (x a b c : Int) :: fnK Try.prog SThr noL Try.f76 [w63 x, w63 a, w63 b, w63 c, .bool false] []
theorem cThrF (x a b c : Int)
    (h1 : W32 x ∧ (1 : Int) ≤ c ∧ c ≤ (31 : Int) := by first | omega | assumption | rfl | ((repeat' with_reducible apply And.intro) <;> first | rfl | assumption | omega))
    (h2 : W32 x ∧ (1 : Int) ≤ a ∧ a ≤ (31 : Int) := by first | omega | assumption | rfl | ((repeat' with_reducible apply And.intro) <;> first | rfl | assumption | omega))
    (h3 : W32 x ∧ (1 : Int) ≤ b ∧ b ≤ (31 : Int) := by first | omega | assumption | rfl | ((repeat' with_reducible apply And.intro) <;> first | rfl | assumption | omega))
    (h4 : W32 (rotr x a.toNat) ∧ W32 (rotr x b.toNat) := by first | omega | assumption | rfl | ((repeat' with_reducible apply And.intro) <;> first | rfl | assumption | omega))
    (h5 : W32 (xo (rotr x a.toNat) (rotr x b.toNat)) ∧ W32 (rotr x c.toNat) := by first | omega | assumption | rfl | ((repeat' with_reducible apply And.intro) <;> first | rfl | assumption | omega)) : fnK Try.prog SThr noL Try.f76 [w63 x, w63 a, w63 b, w63 c, .bool false] [] =
     (some (Res.ret (Value.int IntKind.i64 (xo (xo (rotr x a.toNat) (rotr x b.toNat)) (rotr x c.toNat))) [])) :=
  Eq.trans (by kernel_rfl) (go_t (chk_t h1) (go_t (chk_t h2) (go_t (chk_t h3) (go_t (chk_t h4) (go_t (chk_t h5) rfl)))))
--CFEND
/-- Turned by two numbers, and by a third one, or shifted. -/
def thr (x : Int) (a b c : Nat) (s : Bool) : Int := xo (xo (rotr x a) (rotr x b)) (bif s then x / 2 ^ c else rotr x c)
theorem W32.thr {x : Int} (hx : W32 x) {a b c : Nat} {s : Bool} (ha : a ≤ 32) (hb : b ≤ 32) (hc : c ≤ 32) : W32 (thr x a b c s) := by
  unfold VC.thr
  cases s
  · exact ((hx.rotr ha).xo (hx.rotr hb)).xo (hx.rotr hc)
  · exact ((hx.rotr ha).xo (hx.rotr hb)).xo (hx.shr c)
noncomputable def FThr : FSpec := fun args h k => match args, h with
  | [.int .i64 x, .int .i64 a, .int .i64 b, .int .i64 c, .bool s], [] => bif chk (W32 x ∧ 1 ≤ a ∧ a ≤ 31 ∧ 1 ≤ b ∧ b ≤ 31 ∧ 1 ≤ c ∧ c ≤ 31) then k (w63 (thr x a.toNat b.toNat c.toNat s)) [] else none
  | _, _ => none
theorem okThr : EntryOK Try.prog 76 FThr := by
  refine EntryOK.of_paths (fn := Try.f76) follows_ok Try.func76 (by kernel_rfl) (by kernel_rfl) ?_
  intro args h k out hF
  unfold FThr at hF
  split at hF
  · obtain ⟨hb, hF2⟩ := bif_t hF
    obtain ⟨hx, h1, h2, h3, h4, h5, h6⟩ := chk_iff.1 hb
    rename_i x a b c s
    refine ⟨_, _, hF2, fun _ => ⟨SThr, noL, SThr_ok, noL_ok, ?_⟩⟩
    have ha := hx.rotr (n := a.toNat) (by omega)
    have hb := hx.rotr (n := b.toNat) (by omega)
    have hc := hx.rotr (n := c.toNat) (by omega)
    have hs := hx.shr c.toNat
    cases s with
    | false => exact cThrF x a b c ⟨hx, h5, h6⟩ ⟨hx, h1, h2⟩ ⟨hx, h3, h4⟩ ⟨ha, hb⟩ ⟨ha.xo hb, hc⟩
    | true =>
      have e1 : x.tdiv (2 ^ c.toNat) = x / 2 ^ c.toNat := Int.tdiv_eq_ediv_of_nonneg hx.1
      have p1 := pow_le62 (n := c.toNat) (by omega)
      have := @cThrT x a b c
      simp only [autoParam, e1] at this
      have hs1 := hs.1
      have hs2 := hs.2
      exact this (by omega) ⟨hx, h5, h6⟩ (by omega) (by omega) ⟨hx, h1, h2⟩ ⟨hx, h3, h4⟩ ⟨ha, hb⟩ ⟨ha.xo hb, hs⟩
  · cases hF
end Go.Proofs.Ytcjjngdkkihgjaa.VC
