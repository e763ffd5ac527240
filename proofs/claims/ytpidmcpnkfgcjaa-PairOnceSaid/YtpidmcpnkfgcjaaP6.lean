/- PairOnce: the law. -/
import Derived.Test.YtpidmcpnkfgcjaaP5
namespace Go.Proofs.Ytpidmcpnkfgcjaa.VC
open Go Go.Proofs

theorem okNew : EntryOK Try.prog 26 FNew := by
  refine EntryOK.of_paths (fn := Try.f26) follows_ok Try.func26 (by kernel_rfl) (by kernel_rfl) ?_
  intro args h k out hF
  unfold FNew at hF
  split at hF
  · obtain ⟨hb, hF2⟩ := bif_t hF
    have hc := chk_iff.1 hb
    exact ⟨_, _, hF2, fun _ => ⟨_, noL, SpecOK.on (mkS_cons ok11 (mkS_nil _)) _, noL_ok, pNew _⟩⟩
  · cases hF
theorem okNewR : EntryOK Try.prog 26 FNewR := by
  refine EntryOK.of_paths (fn := Try.f26) follows_ok Try.func26 (by kernel_rfl) (by kernel_rfl) ?_
  intro args h k out hF
  unfold FNewR at hF
  split at hF
  · rename_i w
    obtain ⟨hb, hF2⟩ := bif_t hF
    have hc := chk_iff.1 hb
    refine ⟨_, _, hF2, fun _ => ?_⟩
    by_cases c : w < 100000000
    · exact ⟨_, noL, SpecOK.on (mkS_cons ok11 (mkS_nil _)) _, noL_ok, pNewR1 w⟩
    · exact ⟨_, noL, SpecOK.on (mkS_cons ok11 (mkS_nil _)) _, noL_ok, pNewR2 w⟩
  · cases hF
theorem okComeZ : EntryOK Try.prog 52 FComeZ := by
  refine EntryOK.of_paths (fn := Try.f52) follows_ok Try.func52 (by kernel_rfl) (by kernel_rfl) ?_
  intro args h k out hF
  unfold FComeZ at hF
  split at hF
  · exact ⟨_, _, hF, fun _ => ⟨_, noL, mk0, noL_ok, pComeZ _⟩⟩
  · cases hF
theorem okEdgZ : EntryOK Try.prog 28 FEdgZ := by
  refine EntryOK.of_paths (fn := Try.f28) follows_ok Try.func28 (by kernel_rfl) (by kernel_rfl) ?_
  intro args h k out hF
  unfold FEdgZ at hF
  split at hF
  · exact ⟨_, _, hF, fun _ => ⟨_, noL, mkS_cons okComeZ (mkS_nil _), noL_ok, pEdgZ _⟩⟩
  · cases hF
theorem okMsgZ : EntryOK Try.prog 29 FMsgZ := by
  refine EntryOK.of_paths (fn := Try.f29) follows_ok Try.func29 (by kernel_rfl) (by kernel_rfl) ?_
  intro args h k out hF
  unfold FMsgZ at hF
  split at hF
  · exact ⟨_, _, hF, fun _ => ⟨_, noL, mkS_cons okComeZ (mkS_nil _), noL_ok, pMsgZ _ ⟨_, _, _, _, _, _⟩⟩⟩
  · cases hF
theorem okCpyZ : EntryOK Try.prog 27 FCpyZ := by
  refine EntryOK.of_paths (fn := Try.f27) follows_ok Try.func27 (by kernel_rfl) (by kernel_rfl) ?_
  intro args h k out hF
  unfold FCpyZ at hF
  split at hF
  · exact ⟨_, _, hF, fun _ => ⟨_, noL, mk0, noL_ok, pCpyZ⟩⟩
  · cases hF
theorem okWtZ : EntryOK Try.prog 33 FWtZ := by
  refine EntryOK.of_paths (fn := Try.f33) follows_ok Try.func33 (by kernel_rfl) (by kernel_rfl) ?_
  intro args h k out hF
  unfold FWtZ at hF
  split at hF
  · exact ⟨_, _, hF, fun _ => ⟨_, noL, mk0, noL_ok, pWtZ⟩⟩
  · cases hF
theorem okEdgK : EntryOK Try.prog 28 FEdgK := fun args h k out hk => by
  unfold FEdgK at hk
  split at hk
  · exact okEdgN _ _ _ _ hk
  · exact okEdgI _ _ _ _ hk
theorem okMsgK : EntryOK Try.prog 29 FMsgK := fun args h k out hk => by
  unfold FMsgK at hk
  split at hk
  · exact okMsgN _ _ _ _ hk
  · exact okMsgX _ _ _ _ hk
  · exact okMsgP _ _ _ _ hk
def FTrue7 : FSpec := fun args h k => match args, h with
  | [], [] => k (.bool true) []
  | _, _ => none
theorem okKnw7 : EntryOK Try.prog 25 FTrue7 := by
  refine EntryOK.of_paths (fn := Try.f25) follows_ok Try.func25 (by kernel_rfl) (by kernel_rfl) ?_
  intro args h k out hF
  unfold FTrue7 at hF
  split at hF
  · refine ⟨_, _, hF, fun _ => ⟨_, noL, mkS_cons okNew (mkS_cons okEdgK (mkS_cons okMsgK (mkS_nil _))), noL_ok, pPKnw (by decide) (by decide) (by decide) (by decide) (by decide) (by decide)⟩⟩
  · cases hF
theorem lastR_push {xs A : List Int} (h : Ring xs A) (c : Int) : lastR (pushR xs c) = c := by
  have hr := h.push c
  have hn := hr.num
  rw [List.length_append, List.length_singleton] at hn
  unfold lastR
  rw [hn, show ((((A.length + 1 : Nat) : Int) - 1) % 8).toNat = A.length % 8 by omega, hr.kept A.length (by rw [List.length_append, List.length_singleton]; omega) (by rw [List.length_append, List.length_singleton]; omega), getD_app, if_neg (by omega), if_pos rfl]
theorem low_of {xs A : List Int} (h : Ring xs A) {c : Int} (h0 : 0 ≤ c) (h1 : A ≠ [] → lastR xs ≤ c) : lowB xs c = false := by
  unfold lowB
  rw [dec_f (by omega), Bool.false_or]
  by_cases hA : A = []
  · subst hA
    rw [eqb_t (show xs.getD 8 0 = 0 from h.num)]; rfl
  · have := h1 hA
    unfold lastR at this
    rw [dec_f (show ¬ c < xs.getD ((xs.getD 8 0 - 1) % 8).toNat 0 by omega)]
    exact Bool.and_false _
/-- An operation's kinds. -/
abbrev opK' : List CK := [.b, .b, .i .i64, .i .u8, .b, .i .i64, .b, .i .i64, .b]
/-- The law's state. -/
structure S7 where
  last : Int
  edge : Int
  now : Int
  next : Int
  t : Bool
  xs : List Int
  wt : Option (Int × Ms)
abbrev st7 (w : Int) (n i : Nat) (s : S7) : List Value := [.bool false, pt 1, w63 w, w63 s.last, w63 s.edge, w63 s.now, w63 s.next, sl 0 n 2, w63 n, w63 i]
def hp7 (w : Int) (n : Nat) (vs : List FV) (s : S7) : Heap := match s.wt with
  | none => [opsB n vs, PBe 2 w s.now s.t (.pointer none), eB true s.xs]
  | some (a, m) => [opsB n vs, PBe 2 w s.now s.t (pt 3), eB true s.xs, WB true a m]
structure Once (w : Int) (i : Nat) (s : S7) (A : List Int) : Prop where
  ring : Ring s.xs A
  small : A.length ≤ i
  w0 : 0 ≤ w
  w1 : w ≤ 900000000
  now0 : 0 ≤ s.now
  edge : (A = [] ∧ s.edge = -1) ∨ (A ≠ [] ∧ lastR s.xs = s.edge ∧ 0 ≤ s.edge)
  le : s.edge ≤ s.now
  low : -1 ≤ s.last
  last : s.last ≤ s.edge
  new : s.t = false → A ≠ [] → s.last < s.edge
  nx0 : 0 ≤ s.next
  nx1 : s.next ≤ s.now
  wait : ∀ a m, s.wt = some (a, m) → a = s.next ∧ m.n = true
theorem FV.mem {vs : List FV} {j : Nat} {k : IntKind} (h : FV.isI k (vs.getD j (FV.b false)) = true) : vs.getD j (FV.b false) ∈ vs := by
  rw [List.getD_eq_getElem?_getD] at h ⊢
  cases hx : vs[j]? with
  | none => rw [hx] at h; cases h
  | some x => exact List.mem_of_getElem? hx
theorem FV.rng {f : FV} {k : IntKind} (h : f.ok) (hk : FV.isI k f = true) : k.min ≤ f.asI ∧ f.asI ≤ k.max := by
  cases f with
  | i k' x =>
    have e : k = k' := by simpa [FV.isI] using hk
    subst e; exact h
  | b x => cases hk
  | s x => cases hk
theorem step7 {w : Int} {n : Nat} {vs : List FV} (hn : n ≤ 60) (hk : KindsOK opK' n vs) (hv : ∀ x ∈ vs, x.ok) {i : Nat} (hi : i < n) {s : S7} {A : List Int} (h : Once w i s A) :
    ∃ s' A', Once w (i + 1) s' A' ∧ CodeT Try.prog Try.f7.ntmps 1 (loopOf Try.f7 0) (zipS live7 (st7 w n i s)) (hp7 w n vs s) .normal (zipS live7 (st7 w n (i + 1) s')) (hp7 w n vs s') := by
  obtain ⟨last, edge, now, next, t, xs, wt⟩ := s
  obtain ⟨ring, small, w0, w1, now0, he, le, low, hl, new, nx0, nx1, wait⟩ := h
  simp only at *
  have g0 : (vs.getD (i * 9) (FV.b false)).isB = true := hk.b (j := 0) hi rfl
  have g1 : (vs.getD (i * 9 + 1) (FV.b false)).isB = true := hk.b (j := 1) hi rfl
  have g2 : FV.isI .i64 (vs.getD (i * 9 + 2) (FV.b false)) = true := hk.i (j := 2) hi rfl
  have g3 : FV.isI .u8 (vs.getD (i * 9 + 3) (FV.b false)) = true := hk.i (j := 3) hi rfl
  have g4 : (vs.getD (i * 9 + 4) (FV.b false)).isB = true := hk.b (j := 4) hi rfl
  have g5 : FV.isI .i64 (vs.getD (i * 9 + 5) (FV.b false)) = true := hk.i (j := 5) hi rfl
  have g6 : (vs.getD (i * 9 + 6) (FV.b false)).isB = true := hk.b (j := 6) hi rfl
  have g7 : FV.isI .i64 (vs.getD (i * 9 + 7) (FV.b false)) = true := hk.i (j := 7) hi rfl
  have g8 : (vs.getD (i * 9 + 8) (FV.b false)).isB = true := hk.b (j := 8) hi rfl
  have hnum := ring.num
  have hrng := FV.rng (hv _ (FV.mem (k := .i64) g2)) g2
  have hr1 : -9223372036854775808 ≤ (vs.getD (i * 9 + 2) (FV.b false)).asI := hrng.1
  have hr2 : (vs.getD (i * 9 + 2) (FV.b false)).asI ≤ 9223372036854775807 := hrng.2
  have hA0 : xs.getD 8 0 = 0 ↔ A = [] := by
    rw [hnum]
    exact ⟨fun e => List.length_eq_zero_iff.1 (by omega), fun e => by rw [e]; rfl⟩
  have hedge : A ≠ [] → lastR xs = edge ∧ 0 ≤ edge := fun hA => by
    rcases he with ⟨e, _⟩ | ⟨_, e⟩
    · exact (hA e).elim
    · exact e
  have e1 : -1 ≤ edge := by omega
  by_cases c1 : (vs.getD (i * 9 + 1) (FV.b false)).asB = true
  · refine ⟨⟨last, edge, now, next, t, xs, wt⟩, A, ⟨ring, by omega, w0, w1, now0, he, le, low, hl, new, nx0, nx1, wait⟩, ?_⟩
    cases wt with
    | none => exact CodeT.on (mk0.on _) noL_ok fun on out => p7c1N w last edge now next t n i xs vs on out
    | some q => obtain ⟨a, m⟩ := q; exact CodeT.on (mk0.on _) noL_ok fun on out => p7c1S w last edge now next a t m n i xs vs on out
  have c1 : (vs.getD (i * 9 + 1) (FV.b false)).asB = false := by simpa using c1
  by_cases c2 : (vs.getD (i * 9 + 2) (FV.b false)).asI < now
  · refine ⟨⟨last, edge, now, next, t, xs, wt⟩, A, ⟨ring, by omega, w0, w1, now0, he, le, low, hl, new, nx0, nx1, wait⟩, ?_⟩
    cases wt with
    | none => exact CodeT.on (mk0.on _) noL_ok fun on out => p7c2N w last edge now next t n i xs vs on out
    | some q => obtain ⟨a, m⟩ := q; exact CodeT.on (mk0.on _) noL_ok fun on out => p7c2S w last edge now next a t m n i xs vs on out
  by_cases c3 : (vs.getD (i * 9) (FV.b false)).asB = true
  · by_cases c4 : (vs.getD (i * 9 + 2) (FV.b false)).asI ≤ edge
    · refine ⟨⟨last, edge, now, next, t, xs, wt⟩, A, ⟨ring, by omega, w0, w1, now0, he, le, low, hl, new, nx0, nx1, wait⟩, ?_⟩
      cases wt with
      | none => exact CodeT.on (mk0.on _) noL_ok fun on out => p7c3N w last edge now next t n i xs vs on out
      | some q => obtain ⟨a, m⟩ := q; exact CodeT.on (mk0.on _) noL_ok fun on out => p7c3S w last edge now next a t m n i xs vs on out
    · have hlow : lowB xs (vs.getD (i * 9 + 2) (FV.b false)).asI = false := low_of ring (by omega) fun hA => by have := (hedge hA).1; omega
      have hlp := lastR_push ring (vs.getD (i * 9 + 2) (FV.b false)).asI
      have hrp := ring.push (vs.getD (i * 9 + 2) (FV.b false)).asI
      have hne : A ++ [(vs.getD (i * 9 + 2) (FV.b false)).asI] ≠ [] := by simp
      have hlen : (A ++ [(vs.getD (i * 9 + 2) (FV.b false)).asI]).length ≤ i + 1 := by rw [List.length_append, List.length_singleton]; omega
      have hacc : now ≤ (vs.getD (i * 9 + 2) (FV.b false)).asI ∧ 0 ≤ xs.getD 8 0 ∧ xs.getD 8 0 ≤ 1000 ∧ lowB xs (vs.getD (i * 9 + 2) (FV.b false)).asI = false := ⟨by omega, by omega, by omega, hlow⟩
      cases wt with
      | none =>
        refine ⟨⟨last, _, _, next, false, _, none⟩, _, ⟨hrp, hlen, w0, w1, by show 0 ≤ (vs.getD (i * 9 + 2) (FV.b false)).asI; omega, .inr ⟨hne, hlp, by show 0 ≤ (vs.getD (i * 9 + 2) (FV.b false)).asI; omega⟩, Int.le_refl _, low, by show last ≤ (vs.getD (i * 9 + 2) (FV.b false)).asI; omega, fun _ _ => by show last < (vs.getD (i * 9 + 2) (FV.b false)).asI; omega, nx0, by show next ≤ (vs.getD (i * 9 + 2) (FV.b false)).asI; omega, fun a m e => by cases e⟩, ?_⟩
        exact CodeT.on (SpecOK.on (mkS_cons okEdgN (mkS_nil _)) _) noL_ok fun on out => p7eN w last edge now next t n i xs vs on out
      | some q =>
        obtain ⟨a, m⟩ := q
        obtain ⟨rfl, hm⟩ := wait a m rfl
        by_cases c5 : (vs.getD (i * 9 + 2) (FV.b false)).asI - a ≤ w
        · have hq : now ≤ (vs.getD (i * 9 + 2) (FV.b false)).asI ∧ 0 ≤ xs.getD 8 0 ∧ xs.getD 8 0 ≤ 1000 ∧ lowB xs (vs.getD (i * 9 + 2) (FV.b false)).asI = false ∧ 0 ≤ a ∧ a ≤ (vs.getD (i * 9 + 2) (FV.b false)).asI ∧ (vs.getD (i * 9 + 2) (FV.b false)).asI - a ≤ w := ⟨by omega, by omega, by omega, hlow, by omega, by omega, c5⟩
          refine ⟨⟨_, _, _, a, true, _, none⟩, _, ⟨hrp, hlen, w0, w1, by show 0 ≤ (vs.getD (i * 9 + 2) (FV.b false)).asI; omega, .inr ⟨hne, hlp, by show 0 ≤ (vs.getD (i * 9 + 2) (FV.b false)).asI; omega⟩, Int.le_refl _, by show -1 ≤ (vs.getD (i * 9 + 2) (FV.b false)).asI; omega, Int.le_refl _, (fun e => by cases e), nx0, by show a ≤ (vs.getD (i * 9 + 2) (FV.b false)).asI; omega, fun a m e => by cases e⟩, ?_⟩
          exact CodeT.on (SpecOK.on (mkS_cons okEdgI (mkS_nil _)) _) noL_ok fun on out => p7eI w last edge now a a t m n i xs vs on out
        · have hq : now ≤ (vs.getD (i * 9 + 2) (FV.b false)).asI ∧ 0 ≤ xs.getD 8 0 ∧ xs.getD 8 0 ≤ 1000 ∧ lowB xs (vs.getD (i * 9 + 2) (FV.b false)).asI = false ∧ 0 ≤ a ∧ a ≤ (vs.getD (i * 9 + 2) (FV.b false)).asI ∧ w < (vs.getD (i * 9 + 2) (FV.b false)).asI - a := ⟨by omega, by omega, by omega, hlow, by omega, by omega, by omega⟩
          refine ⟨⟨last, _, _, a, false, _, none⟩, _, ⟨hrp, hlen, w0, w1, by show 0 ≤ (vs.getD (i * 9 + 2) (FV.b false)).asI; omega, .inr ⟨hne, hlp, by show 0 ≤ (vs.getD (i * 9 + 2) (FV.b false)).asI; omega⟩, Int.le_refl _, low, by show last ≤ (vs.getD (i * 9 + 2) (FV.b false)).asI; omega, fun _ _ => by show last < (vs.getD (i * 9 + 2) (FV.b false)).asI; omega, nx0, by show a ≤ (vs.getD (i * 9 + 2) (FV.b false)).asI; omega, fun a m e => by cases e⟩, ?_⟩
          exact CodeT.on (SpecOK.on (mkS_cons okEdgO (mkS_nil _)) _) noL_ok fun on out => p7eO w last edge now a a t m n i xs vs on out
  have c3 : (vs.getD (i * 9) (FV.b false)).asB = false := by simpa using c3
  by_cases c6 : (vs.getD (i * 9 + 8) (FV.b false)).asB = true
  · have hq : now ≤ (vs.getD (i * 9 + 2) (FV.b false)).asI ∧ (vs.getD (i * 9 + 8) (FV.b false)).asB = true := ⟨by omega, c6⟩
    refine ⟨⟨last, edge, (vs.getD (i * 9 + 2) (FV.b false)).asI, (vs.getD (i * 9 + 2) (FV.b false)).asI, t, xs, some ((vs.getD (i * 9 + 2) (FV.b false)).asI, ⟨(vs.getD (i * 9 + 3) (FV.b false)).asI, (vs.getD (i * 9 + 4) (FV.b false)).asB, (vs.getD (i * 9 + 5) (FV.b false)).asI, (vs.getD (i * 9 + 6) (FV.b false)).asB, (vs.getD (i * 9 + 7) (FV.b false)).asI, (vs.getD (i * 9 + 8) (FV.b false)).asB⟩)⟩, A,
      ⟨ring, by omega, w0, w1, by show 0 ≤ (vs.getD (i * 9 + 2) (FV.b false)).asI; omega, he, by show edge ≤ (vs.getD (i * 9 + 2) (FV.b false)).asI; omega, low, hl, new, by show 0 ≤ (vs.getD (i * 9 + 2) (FV.b false)).asI; omega, Int.le_refl _, fun a m e => by cases e; exact ⟨rfl, c6⟩⟩, ?_⟩
    cases wt with
    | none => exact CodeT.on (SpecOK.on (mkS_cons okMsgN (mkS_nil _)) _) noL_ok fun on out => p7mNN w last edge now next t n i xs vs on out
    | some q => obtain ⟨a, m⟩ := q; exact CodeT.on (SpecOK.on (mkS_cons okMsgN (mkS_nil _)) _) noL_ok fun on out => p7mNS w last edge now next a t m n i xs vs on out
  have c6 : (vs.getD (i * 9 + 8) (FV.b false)).asB = false := by simpa using c6
  have hlr : xs.getD 8 0 = 0 ∨ 0 ≤ lastR xs ∧ lastR xs ≤ (vs.getD (i * 9 + 2) (FV.b false)).asI := by
    by_cases hA : A = []
    · exact .inl (hA0.2 hA)
    · have := hedge hA; exact .inr ⟨by omega, by omega⟩
  by_cases c7 : xs.getD 8 0 ≠ 0 ∧ t = false ∧ (vs.getD (i * 9 + 2) (FV.b false)).asI - lastR xs ≤ w ∧ cnt (allX xs) ((vs.getD (i * 9 + 2) (FV.b false)).asI - w) (vs.getD (i * 9 + 2) (FV.b false)).asI = 1
  · have hA : A ≠ [] := fun e => c7.1 (hA0.2 e)
    have hle := (hedge hA).1
    have hnw := new c7.2.1 hA
    have hq : now ≤ (vs.getD (i * 9 + 2) (FV.b false)).asI ∧ (vs.getD (i * 9 + 8) (FV.b false)).asB = false ∧ 0 ≤ now ∧ 0 ≤ w ∧ w ≤ 1000000000 ∧ 0 ≤ xs.getD 8 0 ∧ xs.getD 8 0 ≤ 1000 ∧ (xs.getD 8 0 = 0 ∨ 0 ≤ lastR xs ∧ lastR xs ≤ (vs.getD (i * 9 + 2) (FV.b false)).asI) ∧ xs.getD 8 0 ≠ 0 ∧ t = false ∧ (vs.getD (i * 9 + 2) (FV.b false)).asI - lastR xs ≤ w ∧ cnt (allX xs) ((vs.getD (i * 9 + 2) (FV.b false)).asI - w) (vs.getD (i * 9 + 2) (FV.b false)).asI = 1 :=
      ⟨by omega, c6, now0, w0, by omega, by omega, by omega, hlr, c7⟩
    have hls : ¬ lastR xs ≤ last := by omega
    refine ⟨⟨lastR xs, edge, (vs.getD (i * 9 + 2) (FV.b false)).asI, next, true, xs, wt⟩, A, ⟨ring, by omega, w0, w1, by show 0 ≤ (vs.getD (i * 9 + 2) (FV.b false)).asI; omega, he, by show edge ≤ (vs.getD (i * 9 + 2) (FV.b false)).asI; omega, by show -1 ≤ lastR xs; omega, by show lastR xs ≤ edge; omega, (fun e => by cases e), nx0, by show next ≤ (vs.getD (i * 9 + 2) (FV.b false)).asI; omega, wait⟩, ?_⟩
    cases wt with
    | none => exact CodeT.on (SpecOK.on (mkS_cons okMsgP (mkS_nil _)) _) noL_ok fun on out => p7mPN w last edge now next t n i xs vs on out
    | some q => obtain ⟨a, m⟩ := q; exact CodeT.on (SpecOK.on (mkS_cons okMsgP (mkS_nil _)) _) noL_ok fun on out => p7mPS w last edge now next a t m n i xs vs on out
  · have hq : now ≤ (vs.getD (i * 9 + 2) (FV.b false)).asI ∧ (vs.getD (i * 9 + 8) (FV.b false)).asB = false ∧ 0 ≤ now ∧ 0 ≤ w ∧ w ≤ 1000000000 ∧ 0 ≤ xs.getD 8 0 ∧ xs.getD 8 0 ≤ 1000 ∧ (xs.getD 8 0 = 0 ∨ 0 ≤ lastR xs ∧ lastR xs ≤ (vs.getD (i * 9 + 2) (FV.b false)).asI) ∧ (xs.getD 8 0 = 0 ∨ t = true ∨ w < (vs.getD (i * 9 + 2) (FV.b false)).asI - lastR xs ∨ cnt (allX xs) ((vs.getD (i * 9 + 2) (FV.b false)).asI - w) (vs.getD (i * 9 + 2) (FV.b false)).asI ≠ 1) := by
      refine ⟨by omega, c6, now0, w0, by omega, by omega, by omega, hlr, ?_⟩
      by_cases d1 : xs.getD 8 0 = 0
      · exact .inl d1
      · cases t with
        | true => exact .inr (.inl rfl)
        | false =>
          by_cases d2 : w < (vs.getD (i * 9 + 2) (FV.b false)).asI - lastR xs
          · exact .inr (.inr (.inl d2))
          · exact .inr (.inr (.inr fun d3 => c7 ⟨d1, rfl, by omega, d3⟩))
    refine ⟨⟨last, edge, (vs.getD (i * 9 + 2) (FV.b false)).asI, next, t, xs, wt⟩, A, ⟨ring, by omega, w0, w1, by show 0 ≤ (vs.getD (i * 9 + 2) (FV.b false)).asI; omega, he, by show edge ≤ (vs.getD (i * 9 + 2) (FV.b false)).asI; omega, low, hl, new, nx0, by show next ≤ (vs.getD (i * 9 + 2) (FV.b false)).asI; omega, wait⟩, ?_⟩
    cases wt with
    | none => exact CodeT.on (SpecOK.on (mkS_cons okMsgX (mkS_nil _)) _) noL_ok fun on out => p7mXN w last edge now next t n i xs vs on out
    | some q => obtain ⟨a, m⟩ := q; exact CodeT.on (SpecOK.on (mkS_cons okMsgX (mkS_nil _)) _) noL_ok fun on out => p7mXS w last edge now next a t m n i xs vs on out
abbrev end7 (n : Nat) (vs : List FV) : Heap := [opsB n vs, none, none, none]
theorem loop7 {w : Int} {n : Nat} {vs : List FV} (hn : n ≤ 60) (hk : KindsOK opK' n vs) (hv : ∀ x ∈ vs, x.ok) : ∀ (r i : Nat) (s : S7) (A : List Int), i + r = n → Once w i s A →
    ∃ s', LoopT Try.prog Try.f7.ntmps 1 (loopOf Try.f7 0) (zipS live7 (st7 w n i s)) (hp7 w n vs s) (.exit 0) (zipS live7 (st7 w n n s')) (end7 n vs) := by
  intro r
  induction r with
  | zero =>
    intro i s A hi h
    obtain rfl : i = n := by omega
    refine ⟨s, LoopT.last (by intro h; cases h) ?_⟩
    obtain ⟨last, edge, now, next, t, xs, wt⟩ := s
    cases wt with
    | none =>
      refine CodeT.weak (WeakS.refl _ _) (CodeT.out (mk0.on _) noL_ok fun on out => p7xN w last edge now next t i i xs vs on out) (WeakS.ext (fun id blk hb => ?_) (by simp))
      match id, hb with
      | 0, hb => exact hb
      | 1, hb => cases hb
      | 2, hb => cases hb
      | 3, hb => cases hb
    | some q =>
      obtain ⟨a, m⟩ := q
      refine CodeT.weak (WeakS.refl _ _) (CodeT.out (mk0.on _) noL_ok fun on out => p7xS w last edge now next a t m i i xs vs on out) (WeakS.ext (fun id blk hb => ?_) (by simp))
      match id, hb with
      | 0, hb => exact hb
      | 1, hb => cases hb
      | 2, hb => cases hb
      | 3, hb => cases hb
  | succ r ih =>
    intro i s A hi h
    obtain ⟨s1, A1, h1, c1⟩ := step7 hn hk hv (show i < n by omega) h
    obtain ⟨s2, c2⟩ := ih (i + 1) s1 A1 (by omega) h1
    exact ⟨s2, LoopT.step c1 c2⟩
abbrev init7 : S7 := ⟨-1, -1, 0, 0, false, zero9, none⟩
/-- How the loop ends. -/
noncomputable def fin7 (w : Int) (n : Nat) (vs : List FV) : S7 := @Classical.epsilon S7 ⟨init7⟩ fun s' =>
  LoopT Try.prog Try.f7.ntmps 1 (loopOf Try.f7 0) (zipS live7 (st7 w n 0 init7)) (hp7 w n vs init7) (.exit 0) (zipS live7 (st7 w n n s')) (end7 n vs)
noncomputable def L7f : LF := fun vs h k => match vs, h with
  | [.bool false, .pointer (some ⟨1, 0, none⟩), .int .i64 w, .int .i64 (-1), .int .i64 (-1), .int .i64 0, .int .i64 0, .slice (some ⟨0, 0, none⟩) n 2, .int .i64 n', .int .i64 0],
    [some ⟨false, 9, [.any N fs]⟩, some ⟨true, 5, [.vals [.pointer (some ⟨2, 0, none⟩)], .ints .i64 2 [w', 0], .vals [.bool false, .pointer none]]⟩, some ⟨true, 9, [.ints .i64 9 xs]⟩] =>
    bif chk (N = n * 9 ∧ n' = n ∧ w' = w ∧ xs = zero9 ∧ n ≤ 60 ∧ 0 ≤ w ∧ w ≤ 900000000 ∧ KindsOK opK' n fs) then
      k (.exit 0) [.bool false, pt 1, w63 w, w63 (fin7 w n fs).last, w63 (fin7 w n fs).edge, w63 (fin7 w n fs).now, w63 (fin7 w n fs).next, sl 0 n 2, w63 n, w63 n] [opsB n fs, none, none, none] else none
  | _, _ => none
noncomputable def L7 : LSpec := oneL 7 live7 L7f
theorem loopOK7 : LoopOK Try.prog Try.f7.ntmps 1 (loopOf Try.f7 0) live7 L7f := by
  refine LoopOK.of_T ?_
  intro vs h k out hk
  unfold L7f at hk
  split at hk
  · rename_i w n n' N fs w' xs
    obtain ⟨hb, hk2⟩ := bif_t hk
    obtain ⟨rfl, rfl, rfl, rfl, h5, h6, h7, h8⟩ := chk_iff.1 hb
    refine ⟨_, _, _, hk2, fun real => ?_⟩
    have hs := real.segs (i := 0) rfl _ (List.mem_cons_self ..)
    have := loop7 (w := w') h5 h8 hs.2 n 0 init7 [] (Nat.zero_add _) ⟨⟨rfl, rfl, fun j h => by cases h⟩, Nat.le_refl _, h6, h7, Int.le_refl _, .inl ⟨rfl, rfl⟩, by decide, by decide, by decide, fun _ h => (h rfl).elim, Int.le_refl _, Int.le_refl _, fun a m e => by cases e⟩
    exact @Classical.epsilon_spec S7 _ this
  · cases hk
theorem loops7 : LoopsOK Try.prog L7 Try.f7.ntmps 1 (bodyOf Try.f7) := loops_one rfl (by kernel_rfl) loopOK7
noncomputable def S7a : Spec := mkS [(25, false, FTrue7), (26, false, FNew), (28, true, FEdgZ), (29, true, FMsgZ), (27, false, FCpyZ), (33, false, FWtZ)]
noncomputable def S7b : Spec := mkS [(25, false, FTrue7), (26, false, FNewR)]
--CP p7 (w : Int) (n : Nat) (vs : List FV) :: fnK Try.prog (S7a.on [(28, false), (31, false)]) L7 Try.f7 [w63 w, sl 0 n 2] [opsB n vs]
theorem p7 (w : Int) (n : Nat) (vs : List FV)
    (h1 : (100000000 : Int) ≤ w ∧ w ≤ (900000000 : Int) := by first | omega | assumption | rfl)
    (h2 : ¬(↑n : Int) > (60 : Int) := by first | omega | assumption | rfl)
    (h3 : n * (9 : Nat) = n * (9 : Nat) ∧ (↑n : Int) = (↑n : Int) ∧ w = w ∧ zero9 = zero9 ∧ n ≤ (60 : Nat) ∧ (0 : Int) ≤ w ∧ w ≤ (900000000 : Int) ∧ KindsOK opK' n vs := by first | omega | assumption | rfl) : fnK Try.prog (S7a.on [(28, false), (31, false)]) L7 Try.f7 [w63 w, sl 0 n 2] [opsB n vs] =
     (some (Res.ret (Value.bool true) [some (Blk.mk false (9 : Nat) [Seg.any (n * (9 : Nat)) vs])])) :=
  Eq.trans (by kernel_rfl) (go_t (chk_t h1) (go_f (dec_f h2) (go_t (chk_t h3) rfl)))
--CFEND
--CP p7n (w : Int) (n : Nat) (vs : List FV) :: fnK Try.prog (S7a.on [(28, true)]) L7 Try.f7 [w63 w, sl 0 n 2] [opsB n vs]
theorem p7n (w : Int) (n : Nat) (vs : List FV)
    (h1 : (100000000 : Int) ≤ w ∧ w ≤ (900000000 : Int) := by first | omega | assumption | rfl)
    (h2 : (↑n : Int) > (60 : Int) := by first | omega | assumption | rfl) : fnK Try.prog (S7a.on [(28, true)]) L7 Try.f7 [w63 w, sl 0 n 2] [opsB n vs] =
     (some (Res.ret (Value.bool true) [some (Blk.mk false (9 : Nat) [Seg.any (n * (9 : Nat)) vs])])) :=
  Eq.trans (by kernel_rfl) (go_t (chk_t h1) (go_t (dec_t h2) rfl))
--CFEND
--CP p7r (w : Int) (n : Nat) (vs : List FV) :: fnK Try.prog (S7b.on [(28, false), (31, true)]) L7 Try.f7 [w63 w, sl 0 n 2] [opsB n vs]
theorem p7r (w : Int) (n : Nat) (vs : List FV)
    (h1 : ¬((100000000 : Int) ≤ w ∧ w ≤ (900000000 : Int)) := by first | omega | assumption | rfl)
    (h2 : ¬(↑n : Int) > (60 : Int) := by first | omega | assumption | rfl) : fnK Try.prog (S7b.on [(28, false), (31, true)]) L7 Try.f7 [w63 w, sl 0 n 2] [opsB n vs] =
     (some (Res.ret (Value.bool true) [some (Blk.mk false (9 : Nat) [Seg.any (n * (9 : Nat)) vs])])) :=
  Eq.trans (by kernel_rfl) (go_t (chk_t h1) (go_f (dec_f h2) rfl))
--CFEND
--CP p7rn (w : Int) (n : Nat) (vs : List FV) :: fnK Try.prog (S7b.on [(28, true)]) L7 Try.f7 [w63 w, sl 0 n 2] [opsB n vs]
theorem p7rn (w : Int) (n : Nat) (vs : List FV)
    (h1 : ¬((100000000 : Int) ≤ w ∧ w ≤ (900000000 : Int)) := by first | omega | assumption | rfl)
    (h2 : (↑n : Int) > (60 : Int) := by first | omega | assumption | rfl) : fnK Try.prog (S7b.on [(28, true)]) L7 Try.f7 [w63 w, sl 0 n 2] [opsB n vs] =
     (some (Res.ret (Value.bool true) [some (Blk.mk false (9 : Nat) [Seg.any (n * (9 : Nat)) vs])])) :=
  Eq.trans (by kernel_rfl) (go_t (chk_t h1) (go_t (dec_t h2) rfl))
--CFEND
theorem S7a_ok : SpecOK Try.prog S7a := mkS_cons okKnw7 (mkS_cons okNew (mkS_cons okEdgZ (mkS_cons okMsgZ (mkS_cons okCpyZ (mkS_cons okWtZ (mkS_nil _))))))
theorem S7b_ok : SpecOK Try.prog S7b := mkS_cons okKnw7 (mkS_cons okNewR (mkS_nil _))
noncomputable def F7 : FSpec := fun args h k => match args, h with
  | [.int .i64 _, .slice (some ⟨0, 0, none⟩) n 2], [some ⟨false, 9, [.any N vs]⟩] => bif chk (N = n * 9 ∧ KindsOK opK' n vs) then k (.bool true) [opsB n vs] else none
  | _, _ => none
theorem ok7 : EntryOK Try.prog 7 F7 := by
  refine EntryOK.of_paths (fn := Try.f7) follows_ok Try.func7 (by kernel_rfl) (by kernel_rfl) ?_
  intro args h k out hF
  unfold F7 at hF
  split at hF
  · rename_i w n N vs
    obtain ⟨hb, hF2⟩ := bif_t hF
    obtain ⟨rfl, hk⟩ := chk_iff.1 hb
    refine ⟨_, _, hF2, fun _ => ?_⟩
    by_cases c : 100000000 ≤ w ∧ w ≤ 900000000
    · by_cases c1 : (n : Int) > 60
      · exact ⟨_, L7, S7a_ok.on _, loops7, p7n w n vs⟩
      · exact ⟨_, L7, S7a_ok.on _, loops7, p7 w n vs (h3 := ⟨rfl, rfl, rfl, rfl, by omega, by omega, by omega, hk⟩)⟩
    · by_cases c1 : (n : Int) > 60
      · exact ⟨_, L7, S7b_ok.on _, loops7, p7rn w n vs⟩
      · exact ⟨_, L7, S7b_ok.on _, loops7, p7r w n vs⟩
  · cases hF
theorem top7 {w : Int} {n : Nat} {vs : List FV} {k : Value → Heap → Out} (hk : KindsOK opK' n vs) : F7 [w63 w, sl 0 n 2] [opsB n vs] k = k (.bool true) [opsB n vs] :=
  chk_if ⟨rfl, hk⟩ rfl
end Go.Proofs.Ytpidmcpnkfgcjaa.VC
