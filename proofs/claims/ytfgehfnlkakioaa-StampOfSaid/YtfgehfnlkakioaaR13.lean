/- The document's numbers: Two, Down, Up, Quotient, proved. -/
import Derived.Test.YtfgehfnlkakioaaR11
import Derived.Test.YtfgehfnlkakioaaL6
namespace Go.Proofs.Ytfgehfnlkakioaa.VC
open Go Go.Proofs

/-- Values told with less, one by one. -/
inductive ValW : List Value → List Value → Prop
  | nil : ValW [] []
  | cons {v v2 : Value} {vs vs2 : List Value} (hv : ∀ (ι : Map) (v' : Value), VR ι v v' → VR ι v2 v') (h : ValW vs vs2) : ValW (v :: vs) (v2 :: vs2)
theorem ValW.len {vs vs2 : List Value} (h : ValW vs vs2) : vs.length = vs2.length := by induction h <;> simp_all
theorem ValW.at {vs vs2 : List Value} (h : ValW vs vs2) : ∀ (ι : Map) (i : Nat) (v v2 v' : Value), vs[i]? = some v → vs2[i]? = some v2 → VR ι v v' → VR ι v2 v' := by
  intro ι
  induction h with
  | nil => intro i v v2 v' h; simp at h
  | cons hv _ ih =>
    intro i
    cases i with
    | zero => intro v v2 v' a b c; simp at a b; subst a b; exact hv _ _ c
    | succ i => intro v v2 v' a b c; exact ih i v v2 v' (by simpa using a) (by simpa using b) c
theorem ValW.same (v : Value) {vs vs2 : List Value} (h : ValW vs vs2) : ValW (v :: vs) (v :: vs2) := .cons (fun _ _ x => x) h
theorem WeakS.vals {live : List Nat} {vs vs2 : List Value} {h h2 : Heap} (hn : live.Nodup) (hw : ValW vs vs2) (hc : CutH h h2) : WeakS (zipS live vs) h (zipS live vs2) h2 :=
  ⟨by rw [hc.len]; exact Nat.le_refl _, fun ι _ _ _ _ hs hr => ⟨hs.weak_zip hw.len hn (hw.at ι), HR_cells hr hc.len hc.at, fun _ hm => mods_cells (fun id b2 hb => let ⟨b1, a, b, _⟩ := hc.at id b2 hb; ⟨b1, a, b⟩) hm⟩⟩
theorem WeakS.trans {s s2 s3 : Slots} {h h2 h3 : Heap} (x : WeakS s h s2 h2) (y : WeakS s2 h2 s3 h3) : WeakS s h s3 h3 :=
  ⟨Nat.le_trans x.1 y.1, fun ι n base w a hs hr => let ⟨a1, b1, c1⟩ := x.2 ι n base w a hs hr; let ⟨a2, b2, c2⟩ := y.2 ι n base w a a1 b1; ⟨a2, b2, fun b hb => c1 b (c2 b hb)⟩⟩
theorem VR.capAny {ι : Map} {a : Addr} {n c : Nat} {v : Value} (h : VR ι (.slice (some a) n c) v) : VR ι (.slice (some a) n 2) v := by
  cases h with
  | slZero a => exact .slZero a
  | sl hi h0 h1 ht ha => exact .sl hi h0 h1 (fun h => by cases h) (fun h => by cases h)
theorem CutH.refl : ∀ h : Heap, CutH h h
  | [] => .nil
  | b :: r => .same b (CutH.refl r)

/-! ### Two -/
theorem pow_lt_BB {j k : Nat} (h : j < 32 * k) : 2 ^ j < BB ^ k := by
  rw [show BB = 2 ^ 32 from rfl, ← Nat.pow_mul]
  exact Nat.pow_lt_pow_right (by decide) h
theorem loop27 {k : Exit → List Value → Heap → Out} (P : Nat) (hP : P ≤ 1000) :
    ∀ (r v c : Nat), r ≤ P → v = 2 ^ (P - r) →
      ∃ c', loopN Try.prog S32 noL Try.f27.ntmps 0 (loopOf Try.f27 0) live27 (r + 1) [w64 r, pt 0, sl 1 (digits v).length c] [nb false, db v] k =
      k (.exit 0) [w64 0, pt 0, sl 1 (digits (2 ^ P)).length c'] [nb false, db (2 ^ P)] := by
  intro r
  induction r with
  | zero =>
    intro v c _ hv
    rw [Nat.sub_zero] at hv
    subst hv
    refine ⟨c, ?_⟩
    rw [loopN_succ, cf27r, dec_f (by omega), condF]
    rfl
  | succ r ih =>
    intro v c hr hv
    have hlt : v < BB ^ 32 := by
      rw [hv]
      exact pow_lt_BB (by omega)
    obtain ⟨c', q⟩ := ih (2 * v) 1 (by omega) (by rw [hv, show P - r = (P - (r + 1)) + 1 by omega, Nat.pow_succ, Nat.mul_comm])
    refine ⟨c', ?_⟩
    rw [loopN_succ, cf27r, numW_digits, dec_t (show ((r + 1 : Nat) : Int) > 0 by omega), normB_le hlt (by decide), ble_t (Nat.le_refl (digits v).length)]
    simp only [Bool.and_self, condT]
    rw [show IntKind.u64.wrap (((r + 1 : Nat) : Int) - 1) = (r : Int) by rw [wu64e]; omega]
    exact q

theorem isOne_iff {xs : List Int} : isOne xs = true ↔ xs = [1] := chk_iff
theorem loopOK27 : LoopOK Try.prog Try.f27.ntmps 0 (loopOf Try.f27 0) live27 L27f := by
  refine LoopOK.of_rounds_weak S32_ok follows_ok (L := noL) noL_ok ?_
  intro vs h k out hk
  unfold L27f at hk
  split at hk
  · rename_i p n c n1 xs
    obtain ⟨hb, hk2⟩ := bif_t hk
    simp only [Bool.and_eq_true, decide_eq_true_eq, isOne_iff] at hb
    obtain ⟨⟨⟨⟨h0, h1⟩, h2⟩, h3⟩, h4⟩ := hb
    have h2 := beq_true h2
    have h3 := beq_true h3
    obtain ⟨N, rfl⟩ := Int.eq_ofNat_of_zero_le h0
    subst h2 h3 h4
    obtain ⟨c', q⟩ := loop27 (k := fun e vs h => some (.at e (zipS live27 vs) h)) N (by omega) N 1 c (Nat.le_refl _) (by rw [Nat.sub_self])
    exact ⟨_, _, _, hk2, fun _ => ⟨_, _, WeakS.refl _ _, N + 1, _, _, q, WeakS.vals (by decide) (.same _ (.same _ (.cons (fun _ _ h => h.capAny) .nil))) (.refl _)⟩⟩
  · cases hk
theorem loops27 : LoopsOK Try.prog L27 Try.f27.ntmps 0 (bodyOf Try.f27) := loops_one rfl (by kernel_rfl) loopOK27
theorem ok27 : EntryOK Try.prog 27 F27 := by
  refine EntryOK.of_fn S32_ok follows_ok Try.func27 (by kernel_rfl) (by kernel_rfl) ?_
  intro args h k out hF
  unfold F27 at hF
  split at hF
  · rename_i p
    obtain ⟨hb, hF2⟩ := bif_t hF
    simp only [Bool.and_eq_true] at hb
    exact ⟨_, _, hF2, fun real => ⟨L27, loops27, by rw [cf27, hb.1, hb.2, isOne_iff.2 rfl]; rfl⟩⟩
  · cases hF

/-! ### Down -/
theorem loop28 {s t : Bool} {n c m d n1 m1 : Nat} {xs ys : List Int} (hx : normB n xs = true) (hy : normB m ys = true) (hn : n ≤ n1) (hm : m ≤ m1) (hn4 : n ≤ 400000) (hm4 : m ≤ 399999) (hpos : 0 < numW m ys) {k : Exit → List Value → Heap → Out} :
    ∀ (r v l e l1 : Nat) (zs : List Int), r ≤ 32 * n → v = numW n xs / 2 ^ r / numW m ys → normB l zs = true → l ≤ l1 → numW l zs = numW n xs / 2 ^ r % numW m ys →
      ∃ (l1' e' : Nat) (zs' : List Int), normB (digits (numW n xs % numW m ys)).length zs' = true ∧ (digits (numW n xs % numW m ys)).length ≤ l1' ∧ numW (digits (numW n xs % numW m ys)).length zs' = numW n xs % numW m ys ∧
      loopN Try.prog S28a noL Try.f28.ntmps 2 (loopOf Try.f28 0) live28 (r + 1) [pt 2, pt 3, pt 4, pt 5, dS 6 v, sl 7 l e, w63 ((r : Int) - 1)] [wb n1 xs, wb m1 ys, bx s 0 n c, bx t 1 m d, nb false, nb false, db v, ob l1 zs] k =
      k (.exit 0) [pt 2, pt 3, pt 4, pt 5, dS 6 (numW n xs / numW m ys), sl 7 (digits (numW n xs % numW m ys)).length e', w63 (-1)] [wb n1 xs, wb m1 ys, bx s 0 n c, bx t 1 m d, nb false, nb false, db (numW n xs / numW m ys), ob l1' zs'] := by
  intro r
  have h1 := numW_lt hx
  have h2 := numW_lt hy
  induction r with
  | zero =>
    intro v l e l1 zs _ hv hz hl hL
    rw [Nat.pow_zero, Nat.div_one] at hv hL
    have hlen : l = (digits (numW n xs % numW m ys)).length := by rw [← hL]; exact (normB_iff.1 hz).2.1
    subst hv
    refine ⟨l1, e, zs, by rw [← hlen]; exact hz, by rw [← hlen]; exact hl, by rw [← hlen]; exact hL, ?_⟩
    rw [loopN_succ, cf28r, dec_f (by omega), condF, ← hlen]
    rfl
  | succ r ih =>
    intro v l e l1 zs hr hv hz hl hL
    have hh := half (numW n xs) r
    have hqa : numW n xs / 2 ^ r ≤ numW n xs := Nat.div_le_self _ _
    have hva : v ≤ numW n xs := by rw [hv]; exact Nat.le_trans (Nat.div_le_self _ _) (Nat.div_le_self _ _)
    have sv : normB (digits v).length (digits v) = true := normB_le (Nat.lt_of_le_of_lt hva h1) (by omega)
    have hb := ih
    rw [loopN_succ, cf28r, show ((r + 1 : Nat) : Int) - 1 = (r : Int) by omega, Int.toNat_natCast, hL]
    generalize hq : numW n xs / 2 ^ r = q at *
    generalize hq1 : numW n xs / 2 ^ (r + 1) = q1 at *
    have hdm := Nat.div_add_mod q1 (numW m ys)
    have hlt := Nat.mod_lt q1 hpos
    rw [← hv] at hdm
    generalize hL2 : q1 % numW m ys = L at *
    have hbit : bN (decide (q % 2 = 1)) = q % 2 := by
      by_cases h : q % 2 = 1
      · rw [dec_t h, h]; rfl
      · rw [dec_f h, show q % 2 = 0 by omega]; rfl
    rw [hbit]
    generalize hX : 2 * L + q % 2 = X at *
    have hqX : q = numW m ys * (2 * v) + X := by rw [Nat.mul_left_comm]; omega
    have pm : BB ^ (m + 1) = BB ^ m * 4294967296 := Nat.pow_succ ..
    have sX : normB (digits X).length (digits X) = true := normB_le (k := m + 1) (by omega) (by omega)
    have lX : (digits X).length ≤ m + 1 := digits_len_le (by omega)
    rw [dec_t (show (r : Int) ≥ 0 by omega), hx, hy, hz, sX, sv, ble_t hn, ble_t hm, ble_t hl, ble_t (Nat.le_refl (digits X).length), ble_t (Nat.le_refl (digits v).length), numW_digits, numW_digits]
    simp only [Bool.and_self, Bool.and_true, condT]
    rw [swrap (x := (r : Int) - 1) (by omega) (by omega)]
    by_cases hfit : numW m ys ≤ X
    · have hcmp : cmpI X (numW m ys) ≥ 0 := by unfold cmpI; split <;> (try split) <;> omega
      have hXl : X - numW m ys < BB ^ (digits X).length := Nat.lt_of_le_of_lt (Nat.sub_le _ _) (lt_pow_digits X)
      have hw1 : wordsB (digits X).length (wordsN (digits X).length (X - numW m ys)) = true := wordsB_wordsN (by omega)
      have hw2 : numW (digits X).length (wordsN (digits X).length (X - numW m ys)) = X - numW m ys := numW_wordsN hXl
      have hll : (digits (X - numW m ys)).length ≤ (digits X).length := digits_len_le hXl
      obtain ⟨hw3, hw4⟩ := normB_mk (take_digits_wordsN (digits X).length (X - numW m ys) hXl) rfl (by omega)
      rw [dec_t hcmp, ble_t hfit, hw1, hw2, show bN true = 1 from rfl]
      simp only [Bool.and_self, condT]
      have hq2 : q = numW m ys * (2 * v + 1) + (X - numW m ys) := by rw [Nat.mul_add, Nat.mul_one]; omega
      have hdiv : q / numW m ys = 2 * v + 1 := by rw [hq2, Nat.mul_add_div hpos, Nat.div_eq_of_lt (by omega), Nat.add_zero]
      have hmod : q % numW m ys = X - numW m ys := by rw [hq2, Nat.mul_add_mod, Nat.mod_eq_of_lt (by omega)]
      exact ih (2 * v + 1) _ 2 _ _ (by omega) hdiv.symm hw3 hll (hw4.trans hmod.symm)
    · have hcmp : ¬ cmpI X (numW m ys) ≥ 0 := by unfold cmpI; rw [if_neg (by omega), if_pos (by omega)]; omega
      rw [dec_f hcmp, show bN false = 0 from rfl, Nat.add_zero]
      simp only [condF]
      have hdiv : q / numW m ys = 2 * v := by rw [hqX, Nat.mul_add_div hpos, Nat.div_eq_of_lt (by omega), Nat.add_zero]
      have hmod : q % numW m ys = X := by rw [hqX, Nat.mul_add_mod, Nat.mod_eq_of_lt (by omega)]
      exact ih (2 * v) _ 1 _ _ (by omega) hdiv.symm sX (Nat.le_refl _) ((numW_digits X).trans hmod.symm)

theorem loopOK28 : LoopOK Try.prog Try.f28.ntmps 2 (loopOf Try.f28 0) live28 L28f := by
  refine LoopOK.of_rounds_weak S28a_ok follows_ok (L := noL) noL_ok ?_
  intro vs h k out hk
  unfold L28f at hk
  split at hk
  · rename_i p n1 xs m1 ys s n c t m d
    obtain ⟨hb, hk2⟩ := bif_t hk
    simp only [Bool.and_eq_true, beq_iff_eq] at hb
    obtain ⟨⟨⟨⟨⟨⟨⟨hx, hy⟩, hn⟩, hm⟩, hn4⟩, hm4⟩, hpos⟩, hp⟩ := hb
    have hn4 := ble_true hn4
    have hm4 := ble_true hm4
    have hpos := blt_true hpos
    have h1 := numW_lt hx
    have hp2 : p = ((32 * n : Nat) : Int) - 1 := by rw [hp, swrap (x := 32 * (n : Int)) (by omega) (by omega), swrap (by omega) (by omega)]; omega
    subst hp2
    have e : numW n xs / 2 ^ (32 * n) = 0 := by rw [Nat.pow_mul, show (2 : Nat) ^ 32 = BB from rfl, Nat.div_eq_of_lt h1]
    obtain ⟨l1', e', zs', q1, q2, q3, q4⟩ := loop28 hx hy (ble_true hn) (ble_true hm) hn4 hm4 hpos (c := c) (d := d) (s := s) (t := t) (k := fun e vs h => some (.at e (zipS live28 vs) h)) (32 * n) 0 0 1 0 [] (Nat.le_refl _) (by rw [e, Nat.zero_div]) (normB_digits (v := 0) (by decide)) (Nat.le_refl _) (by rw [e, Nat.zero_mod]; rfl)
    refine ⟨_, _, _, hk2, fun _ => ⟨_, _, WeakS.trans (WeakS.nilS (k := .u64) (es := 1) (own := true) (by decide) (.same _ (.same _ (.same _ (.same _ (.none 6 1 (.same _ (.same _ .nil))))))))
      (WeakS.nilS (k := .u64) (es := 1) (own := true) (by decide) (.same _ (.same _ (.same _ (.same _ (.same _ (.none 7 1 (.same _ .nil)))))))), 32 * n + 1, _, _, q4, WeakS.vals (by decide) (.same _ (.same _ (.same _ (.same _ (.same _ (.cons (fun _ _ h => h.capAny) (.same _ .nil))))))) ?_⟩⟩
    exact .same _ (.same _ (.same _ (.same _ (.same _ (.same _ (.same _ (.row q2 (by rw [(normB_iff.1 q1).1, q3]) .nil)))))))
  · cases hk
theorem loops28 : LoopsOK Try.prog L28 Try.f28.ntmps 2 (bodyOf Try.f28) := loops_one rfl (by kernel_rfl) loopOK28
theorem S28_ok : SpecOK Try.prog S28 := mkS_cons ok29 (mkS_cons ok36 (mkS_cons ok93 (mkS_nil _)))

theorem floorNeg {a b : Nat} (hb : 0 < b) : (-(a : Int)) / (b : Int) = -((a / b : Nat) : Int) - (if a % b = 0 then 0 else 1) ∧ (-(a : Int)) % (b : Int) = if a % b = 0 then 0 else ((b - a % b : Nat) : Int) := by
  have hdm := Nat.div_add_mod a b
  have hlt := Nat.mod_lt a hb
  generalize a / b = q at *
  generalize a % b = r at *
  subst hdm
  have e : ((b * q + r : Nat) : Int) = (b : Int) * (q : Int) + (r : Int) := by rw [Int.natCast_add, Int.natCast_mul]
  rw [e]
  split
  · rename_i h; subst h
    have h1 : -((b : Int) * q + ((0 : Nat) : Int)) = 0 + (b : Int) * (-(q : Int)) := by rw [Int.mul_neg]; omega
    rw [h1]
    constructor
    · rw [Int.add_mul_ediv_left _ _ (by omega)]; simp
    · rw [Int.add_mul_emod_self_left]; rfl
  · have h1 : -((b : Int) * q + (r : Int)) = ((b - r : Nat) : Int) + (b : Int) * (-(q : Int) - 1) := by rw [Int.mul_sub, Int.mul_neg]; omega
    rw [h1]
    constructor
    · rw [Int.add_mul_ediv_left _ _ (by omega), Int.ediv_eq_zero_of_lt (by omega) (by omega)]; omega
    · rw [Int.add_mul_emod_self_left, Int.emod_eq_of_lt (by omega) (by omega)]
end Go.Proofs.Ytfgehfnlkakioaa.VC
