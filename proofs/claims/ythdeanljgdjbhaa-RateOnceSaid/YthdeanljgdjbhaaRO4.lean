/- RateOnce: all rounds. -/
import Derived.Test.YthdeanljgdjbhaaRO3
namespace Go.Proofs.Ythdeanljgdjbhaa.VC
open Go Go.Proofs

def uE (l : List (Int × Int)) : List (Value × Value) := l.map fun x => (w16 x.1, w63 x.2)
def rE (ts : List Cl) : List (Value × Value) := uE (ts.map fun c => (c.p, c.r))
def kE (ts : List Cl) : List (Value × Value) := uE ((ts.filter (·.d)).map fun c => (c.p, c.k))
theorem eqP (p q : Int) : eqV Try.prog 20 49 (w16 p) (w16 q) = some (p == q) := by kernel_rfl
theorem keyP (p : Int) : keyV Try.prog 49 1 (w16 p) = true := by kernel_rfl
theorem keysP (p : Int) : ∀ l : List (Int × Int), keysV Try.prog 49 1 (w16 p) (uE l) = true
  | [] => rfl
  | c :: l => keysV_cons (keyP c.1) (eqP p c.1) (keysP p l)
theorem missP (p : Int) : ∀ l : List (Int × Int), (∀ c ∈ l, c.1 ≠ p) → missM Try.prog 49 (w16 p) (uE l) = true
  | [], _ => rfl
  | c :: l, h => by
    have e : (p == c.1) = false := beq_eq_false_iff_ne.2 fun e => h c (List.mem_cons_self ..) e.symm
    exact missM_cons (eqP p c.1) e (missP p l (fun x hx => h x (List.mem_cons_of_mem _ hx)))
/-- What holds of the clients behind some questions. -/
structure InvR (z at' : Int) (ts : List Cl) : Prop where
  nd : (ts.map (·.p)).Nodup
  pr : ∀ c ∈ ts, 0 ≤ c.p ∧ c.p < 64
  tm : ∀ c ∈ ts, 0 ≤ c.r ∧ c.r ≤ at' ∧ 0 ≤ c.k ∧ c.k ≤ at'
  zz : z ≤ at'
theorem nodup_len : ∀ (n : Nat) (l : List Int), l.Nodup → (∀ x ∈ l, 0 ≤ x ∧ x < (n : Int)) → l.length ≤ n
  | 0, l, _, h => by
    cases l with
    | nil => exact Nat.le_refl _
    | cons x r => have := h x (List.mem_cons_self ..); omega
  | n + 1, l, hd, h => by
    have h1 := nodup_len n (l.erase (n : Int)) (hd.erase _) fun x hx => by
      have h2 := (hd.mem_erase_iff).1 hx
      have := h x h2.2
      have := h2.1
      omega
    have := List.length_erase_le (a := (n : Int)) (l := l)
    have : l.length ≤ (l.erase (n : Int)).length + 1 := by
      rw [List.length_erase]; split <;> omega
    omega
theorem InvR.perm {z at' : Int} {ts us : List Cl} (h : InvR z at' ts) (hp : ts.Perm us) : InvR z at' us :=
  ⟨((hp.map _).nodup_iff).1 h.nd, fun c hc => h.pr c ((hp.mem_iff).2 hc), fun c hc => h.tm c ((hp.mem_iff).2 hc), h.zz⟩
theorem InvR.short {z at' : Int} {ts : List Cl} (h : InvR z at' ts) {p : Int} (hp : 0 ≤ p ∧ p < 64) (hn : ∀ c ∈ ts, c.p ≠ p) : ts.length < 64 := by
  have := nodup_len 64 (p :: ts.map (·.p)) (List.nodup_cons.2 ⟨fun hm => by obtain ⟨c, hc, e⟩ := List.mem_map.1 hm; exact hn c hc e, h.nd⟩) fun x hx => by
    rcases List.mem_cons.1 hx with rfl | hx
    · exact hp
    · obtain ⟨c, hc, rfl⟩ := List.mem_map.1 hx; exact h.pr c hc
  simp only [List.length_cons, List.length_map] at this
  omega
/-- Another one. -/
theorem InvR.add {z at' t : Int} {ts : List Cl} (h : InvR z at' ts) {p : Int} (hp : 0 ≤ p ∧ p < 64) (hn : ∀ c ∈ ts, c.p ≠ p) (h0 : 0 ≤ at') (ht : at' ≤ t) : InvR t t (ts ++ [⟨p, t, t, 0, false⟩]) := by
  refine ⟨?_, fun c hc => ?_, fun c hc => ?_, by omega⟩
  · rw [List.map_append, List.nodup_append]
    refine ⟨h.nd, by simp, fun a ha b hb => ?_⟩
    obtain ⟨c, hc, rfl⟩ := List.mem_map.1 ha
    simp at hb
    subst hb
    exact hn c hc
  · rcases List.mem_append.1 hc with hc | hc
    · exact h.pr c hc
    · simp at hc; subst hc; exact hp
  · rcases List.mem_append.1 hc with hc | hc
    · have := h.tm c hc; omega
    · simp at hc; subst hc; simp only; omega
/-- One of them again. -/
theorem InvR.upd {z at' t : Int} {c : Cl} {ts : List Cl} (h : InvR z at' (c :: ts)) {a r k : Int} {d : Bool} (ht : at' ≤ t) (hr : 0 ≤ r ∧ r ≤ t) (hk : 0 ≤ k ∧ k ≤ t) : InvR t t (⟨c.p, a, r, k, d⟩ :: ts) := by
  refine ⟨h.nd, fun x hx => ?_, fun x hx => ?_, by omega⟩
  · rcases List.mem_cons.1 hx with rfl | hx
    · exact h.pr c (List.mem_cons_self ..)
    · exact h.pr x (List.mem_cons_of_mem _ hx)
  · rcases List.mem_cons.1 hx with rfl | hx
    · simp only; omega
    · have := h.tm x (List.mem_cons_of_mem _ hx); omega
theorem loop6 (g : Int) (N M : Nat) (ds ps : List Int) (hg : 0 ≤ g ∧ g ≤ 4611686018427387904) (hN : N ≤ 100) (hM : N ≤ M) (hds : ∀ i, 0 ≤ ds.getD i 0 ∧ ds.getD i 0 ≤ 4294967295) (hps : ∀ i, 0 ≤ ps.getD i 0 ∧ ps.getD i 0 ≤ 255) :
    ∀ (m i : Nat) (at' z : Int) (ts : List Cl), i + m = N → InvR z at' ts → 0 ≤ at' → at' ≤ (i : Int) * 4294967296 →
    ∃ t, LoopT Try.prog Try.f6.ntmps 2 (loopOf Try.f6 0) (zipS live6 (st6 g N M i at')) (hp6 g z N M ds ps (tE ts) (rE ts) (kE ts)) (.exit 0) (zipS live6 (st6 g N M N t))
      [some ⟨false, 1, [.ints .u32 N ds]⟩, some ⟨false, 1, [.ints .u8 M ps]⟩, none, none, none, none] := by
  intro m
  induction m with
  | zero =>
    intro i at' z ts hi hv h0 h1
    obtain rfl : i = N := hi
    refine ⟨at', LoopT.weakE (LoopT.last (by simp) (CodeT.out (S := S6a.on [(45, false)]) S6a_ok noL_ok (fun on out => p6x g z i M at' ds ps _ _ _ on out))) (WeakS.ext (fun id blk h => ?_) (by simp))⟩
    match id, h with
    | 0, h => exact h
    | 1, h => exact h
    | 2, h => cases h
    | 3, h => cases h
    | 4, h => cases h
    | 5, h => cases h
  | succ m ih =>
    intro i at' z ts hi hv h0 h1
    have hd := hds i
    have hq := hps i
    have hp : IntKind.u16.wrap ((ps.getD i 0).tmod 64) = (ps.getD i 0) % 64 := by
      rw [Int.tmod_eq_emod_of_nonneg hq.1]
      simp only [IntKind.wrap, IntKind.bits, IntKind.signed, Bool.false_and, Bool.false_eq_true, if_false]; omega
    have hz := hv.zz
    by_cases hn : ∀ c ∈ ts, c.p ≠ IntKind.u16.wrap ((ps.getD i 0).tmod 64)
    · have hs := hv.short (p := IntKind.u16.wrap ((ps.getD i 0).tmod 64)) (by rw [hp]; omega) hn
      obtain ⟨t, hl⟩ := ih (i + 1) (at' + ds.getD i 0) (at' + ds.getD i 0) (ts ++ [⟨IntKind.u16.wrap ((ps.getD i 0).tmod 64), at' + ds.getD i 0, at' + ds.getD i 0, 0, false⟩]) (by omega)
        (hv.add (t := at' + ds.getD i 0) (by rw [hp]; omega) hn h0 (by omega)) (by omega) (by omega)
      refine ⟨t, LoopT.step (CodeT.on (S := S6a.on [(45, true), (61, false), (68, false), (98, true), (107, false), (108, false)]) S6a_ok noL_ok (fun on out => p6A g z N M i at' ds ps (tE ts) (rE ts) (kE ts) on out (by omega) (by omega) (by omega) (by omega) (by omega) (by omega) (by omega) (by omega)
        (keysP _ _) (missP _ _ (fun c hc => by obtain ⟨x, hx, rfl⟩ := List.mem_map.1 hc; exact hn x hx)) (keysP _ _) (missP _ _ (fun c hc => by obtain ⟨x, hx, rfl⟩ := List.mem_map.1 hc; exact hn x (List.mem_filter.1 hx).1))
        ⟨keysA _ _, missA _ _ hn, by rw [tE, List.length_map]; exact hs, by omega⟩)) ?_⟩
      rw [tE, rE, kE, List.map_append, List.map_append, List.filter_append, uE, uE, List.map_append] at hl
      simp only [List.filter_cons, List.filter_nil, Bool.false_eq_true, if_false, List.append_nil] at hl
      exact hl
    · obtain ⟨c, hc, hcp⟩ : ∃ c ∈ ts, c.p = IntKind.u16.wrap ((ps.getD i 0).tmod 64) := by
        apply Classical.byContradiction
        intro h
        exact hn fun c hc e => h ⟨c, hc, e⟩
      obtain ⟨A, B, rfl⟩ := List.append_of_mem hc
      have hperm : (A ++ c :: B).Perm (c :: (A ++ B)) := List.perm_middle
      have hv := hv.perm hperm
      generalize A ++ B = us at hperm hv
      have ht := hv.tm c (List.mem_cons_self ..)
      -- the maps, with the client ahead
      suffices h : ∃ t, LoopT Try.prog Try.f6.ntmps 2 (loopOf Try.f6 0) (zipS live6 (st6 g N M i at')) (hp6 g z N M ds ps (tE (c :: us)) (rE (c :: us)) (kE (c :: us))) (.exit 0) (zipS live6 (st6 g N M N t))
          [some ⟨false, 1, [.ints .u32 N ds]⟩, some ⟨false, 1, [.ints .u8 M ps]⟩, none, none, none, none] by
        obtain ⟨t, h⟩ := h
        refine ⟨t, LoopT.weak (WeakS.perm (id := 3) rfl (hperm.map _)) (LoopT.weak (WeakS.perm (id := 4) rfl ((hperm.map _).map _)) (LoopT.weak (WeakS.perm (id := 5) rfl (((hperm.filter _).map _).map _)) h))⟩
      obtain ⟨p, a, r, k, d⟩ := c
      simp only at hcp ht
      subst hcp
      have hk1 : keysV Try.prog 49 1 (w16 (IntKind.u16.wrap ((ps.getD i 0).tmod 64))) ((w16 (IntKind.u16.wrap ((ps.getD i 0).tmod 64)), w63 r) :: rE us) = true := keysV_cons (keyP _) (eqP _ _) (keysP _ _)
      have hk2 : keysV Try.prog 49 1 (w16 (IntKind.u16.wrap ((ps.getD i 0).tmod 64))) ((w16 (IntKind.u16.wrap ((ps.getD i 0).tmod 64)), w63 k) :: kE us) = true := keysV_cons (keyP _) (eqP _ _) (keysP _ _)
      have hno : ∀ x ∈ us, x.p ≠ IntKind.u16.wrap ((ps.getD i 0).tmod 64) := fun x hx e => by
        have := hv.nd
        simp only [List.map_cons, List.nodup_cons] at this
        exact this.1 (List.mem_map.2 ⟨x, hx, e⟩)
      have hmK : missM Try.prog 49 (w16 (IntKind.u16.wrap ((ps.getD i 0).tmod 64))) (kE us) = true := missP _ _ (fun c hc => by obtain ⟨x, hx, rfl⟩ := List.mem_map.1 hc; exact hno x (List.mem_filter.1 hx).1)
      by_cases c1 : g ≤ at' + ds.getD i 0 - r
      · -- replied to
        obtain ⟨t, hl⟩ := ih (i + 1) (at' + ds.getD i 0) (at' + ds.getD i 0) (⟨IntKind.u16.wrap ((ps.getD i 0).tmod 64), at' + ds.getD i 0, at' + ds.getD i 0, k, d⟩ :: us) (by omega)
          (hv.upd (t := at' + ds.getD i 0) (by omega) (by omega) (by omega)) (by omega) (by omega)
        refine ⟨t, ?_⟩
        cases d with
        | false =>
          exact LoopT.step (CodeT.on (S := (S6 1).on [(45, true), (61, true), (68, false), (98, true), (107, false), (108, true)]) (S6_ok 1) noL_ok (fun on out => p6R0 g z N M i at' _ a r k ds ps (tE us) (rE us) (kE us) on out (by omega) (by omega) (by omega) (by omega) (by omega) (by omega) (by omega) (by omega) (by omega)
            hk1 rfl (keysP _ _) hmK ⟨rfl, keysA _ _, by omega, by omega, by omega, by omega, by omega, by omega, hg.1, hg.2, by rw [if_pos c1]⟩ (by omega))) hl
        | true =>
          exact LoopT.step (CodeT.on (S := (S6 1).on [(45, true), (61, true), (68, true), (98, true), (107, false), (108, true)]) (S6_ok 1) noL_ok (fun on out => p6R1 g z N M i at' _ a r k ds ps (tE us) (rE us) (kE us) on out (by omega) (by omega) (by omega) (by omega) (by omega) (by omega) (by omega) (by omega) (by omega)
            hk1 rfl hk2 ⟨rfl, keysA _ _, by omega, by omega, by omega, by omega, by omega, by omega, hg.1, hg.2, by rw [if_pos c1]⟩ (by omega))) hl
      · by_cases c2 : d = false ∨ g ≤ at' + ds.getD i 0 - k
        · -- told RATE
          obtain ⟨t, hl⟩ := ih (i + 1) (at' + ds.getD i 0) (at' + ds.getD i 0) (⟨IntKind.u16.wrap ((ps.getD i 0).tmod 64), at' + ds.getD i 0, r, at' + ds.getD i 0, true⟩ :: us) (by omega)
            (hv.upd (t := at' + ds.getD i 0) (by omega) (by omega) (by omega)) (by omega) (by omega)
          cases d with
          | false =>
            refine ⟨t, LoopT.step (CodeT.on (S := (S6 2).on [(45, true), (61, true), (68, false), (98, false), (112, true), (132, false), (133, false)]) (S6_ok 2) noL_ok (fun on out => p6K0 g z N M i at' _ a r k ds ps (tE us) (rE us) (kE us) on out (by omega) (by omega) (by omega) (by omega) (by omega) (by omega) (by omega) (by omega) (by omega)
              hk1 rfl (keysP _ _) hmK ⟨rfl, keysA _ _, by omega, by omega, by omega, by omega, by omega, by omega, hg.1, hg.2, by rw [if_neg c1, if_pos c2]⟩ (by omega))) (LoopT.weak (WeakS.perm (id := 5) rfl (E' := kE (⟨IntKind.u16.wrap ((ps.getD i 0).tmod 64), at' + ds.getD i 0, r, at' + ds.getD i 0, true⟩ :: us)) ?_) hl)⟩
            exact List.perm_append_singleton _ _
          | true =>
            have c3 : g ≤ at' + ds.getD i 0 - k := by rcases c2 with c2 | c2; cases c2; exact c2
            exact ⟨t, LoopT.step (CodeT.on (S := (S6 2).on [(45, true), (61, true), (68, true), (98, false), (112, true), (132, false), (133, true)]) (S6_ok 2) noL_ok (fun on out => p6K1 g z N M i at' _ a r k ds ps (tE us) (rE us) (kE us) on out (by omega) (by omega) (by omega) (by omega) (by omega) (by omega) (by omega) (by omega) (by omega) (by omega)
              hk1 rfl hk2 ⟨rfl, keysA _ _, by omega, by omega, by omega, by omega, by omega, by omega, hg.1, hg.2, by rw [if_neg c1, if_pos c2]⟩ (by omega) (by omega))) hl⟩
        · -- not answered
          cases d with
          | false => exact absurd (.inl rfl) c2
          | true =>
            have c3 : ¬ g ≤ at' + ds.getD i 0 - k := fun e => c2 (.inr e)
            obtain ⟨t, hl⟩ := ih (i + 1) (at' + ds.getD i 0) (at' + ds.getD i 0) (⟨IntKind.u16.wrap ((ps.getD i 0).tmod 64), at' + ds.getD i 0, r, k, true⟩ :: us) (by omega)
              (hv.upd (t := at' + ds.getD i 0) (by omega) (by omega) (by omega)) (by omega) (by omega)
            exact ⟨t, LoopT.step (CodeT.on (S := (S6 0).on [(45, true), (61, true), (68, true), (98, false), (112, false), (97, false)]) (S6_ok 0) noL_ok (fun on out => p6N g z N M i at' _ a r k ds ps (tE us) (rE us) (kE us) on out (by omega) (by omega) (by omega) (by omega) (by omega) (by omega) (by omega) (by omega) (by omega) (by omega)
              hk1 rfl hk2 ⟨rfl, keysA _ _, by omega, by omega, by omega, by omega, by omega, by omega, hg.1, hg.2, by rw [if_neg c1, if_neg c2]⟩ (by omega) (by omega))) hl⟩
end Go.Proofs.Ythdeanljgdjbhaa.VC
