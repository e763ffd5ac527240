/- PairPlays: the step: a message. -/
import Derived.Test.YtpidmcpnkfgcjaaP16
namespace Go.Proofs.Ytpidmcpnkfgcjaa.VC
open Go Go.Proofs

theorem step6m {w : Int} {n : Nat} {vs : List FV} (hn : n ≤ 60) (hk : KindsOK opK' n vs) {i : Nat} (hi : i < n) {s : S6} (h : Plays w i s)
    (c1 : (vs.getD (i * 9 + 1) (FV.b false)).asB = false) (c2 : (vs.getD (i * 9) (FV.b false)).asB = false) : Step6 w n vs i s := by
  have g0 : (vs.getD (i * 9) (FV.b false)).isB = true := hk.b (j := 0) hi rfl
  have g1 : (vs.getD (i * 9 + 1) (FV.b false)).isB = true := hk.b (j := 1) hi rfl
  have g2 : FV.isI .i64 (vs.getD (i * 9 + 2) (FV.b false)) = true := hk.i (j := 2) hi rfl
  have g3 : FV.isI .u8 (vs.getD (i * 9 + 3) (FV.b false)) = true := hk.i (j := 3) hi rfl
  have g4 : (vs.getD (i * 9 + 4) (FV.b false)).isB = true := hk.b (j := 4) hi rfl
  have g5 : FV.isI .i64 (vs.getD (i * 9 + 5) (FV.b false)) = true := hk.i (j := 5) hi rfl
  have g6 : (vs.getD (i * 9 + 6) (FV.b false)).isB = true := hk.b (j := 6) hi rfl
  have g7 : FV.isI .i64 (vs.getD (i * 9 + 7) (FV.b false)) = true := hk.i (j := 7) hi rfl
  have g8 : (vs.getD (i * 9 + 8) (FV.b false)).isB = true := hk.b (j := 8) hi rfl
  have hsm := h.small
  have hnum := h.ring.num
  have hal := edgT_len s.ts s.ts.length
  have hw0 := h.w0
  have hw1 := h.w1
  have hw2 : w ≤ 1000000000 := by omega
  have hn0 := h.now0
  have hmay := h.may (c := (vs.getD (i * 9 + 2) (FV.b false)).asI)
  by_cases hc : s.now ≤ (vs.getD (i * 9 + 2) (FV.b false)).asI
  · have hm := hmay.2 hc
    have hlr := h.lastR hc
    have q1 : 0 ≤ s.xs.getD 8 0 := by omega
    have q2 : s.xs.getD 8 0 ≤ 1000 := by omega
    have q3 : s.ts.length ≤ 60 := by omega
    have q4 : s.ts.length + 1 ≤ 60 := by omega
    have hN := fun x => h.next (x := x) hc
    have hX := fun x => h.msg (x := x) hc
    have hP := fun x j hx hl hj => h.pair (x := x) (j := j) hc hx hl hj
    have hwait := h.wait
    have hidle := h.idle
    have hrise := h.rise
    have hyes := pair_yes (w := w) (c := (vs.getD (i * 9 + 2) (FV.b false)).asI) h.ring h.taken
    have hno := pair_no (w := w) (c := (vs.getD (i * 9 + 2) (FV.b false)).asI) h.ring h.taken
    obtain ⟨now, t, xs, wt, ts, cc⟩ := s
    simp only at *
    have r1 : ∀ x : Th, ts.length + 1 = (ts ++ [x]).length := fun x => snoc_len.symm
    have r2 : ∀ x : Th, (ts.length + 1) * 10 = (ts ++ [x]).length * 10 := fun x => by rw [← r1]
    by_cases cn : (vs.getD (i * 9 + 8) (FV.b false)).asB = true
    · have hN := hN ⟨(vs.getD (i * 9 + 3) (FV.b false)).asI, (vs.getD (i * 9 + 4) (FV.b false)).asB, (vs.getD (i * 9 + 5) (FV.b false)).asI, (vs.getD (i * 9 + 6) (FV.b false)).asB, (vs.getD (i * 9 + 7) (FV.b false)).asI, (vs.getD (i * 9 + 8) (FV.b false)).asB⟩ cn
      obtain ⟨_, j, hj, _⟩ := hN.wait _ _ rfl
      have r1 := r1 (tM (vs.getD (i * 9 + 2) (FV.b false)).asI ⟨(vs.getD (i * 9 + 3) (FV.b false)).asI, (vs.getD (i * 9 + 4) (FV.b false)).asB, (vs.getD (i * 9 + 5) (FV.b false)).asI, (vs.getD (i * 9 + 6) (FV.b false)).asB, (vs.getD (i * 9 + 7) (FV.b false)).asI, (vs.getD (i * 9 + 8) (FV.b false)).asB⟩)
      have r2 := r2 (tM (vs.getD (i * 9 + 2) (FV.b false)).asI ⟨(vs.getD (i * 9 + 3) (FV.b false)).asI, (vs.getD (i * 9 + 4) (FV.b false)).asB, (vs.getD (i * 9 + 5) (FV.b false)).asI, (vs.getD (i * 9 + 6) (FV.b false)).asB, (vs.getD (i * 9 + 7) (FV.b false)).asI, (vs.getD (i * 9 + 8) (FV.b false)).asB⟩)
      have hxs : (vs.getD (i * 9 + 8) (FV.b false)).asB = true ∨ noP ts w (vs.getD (i * 9 + 2) (FV.b false)).asI := .inl cn
      refine ⟨_, hN, ?_⟩
      cases wt with
      | none =>
        have c := CodeT.on (SpecOK.on (S6m_ok okMsgN (okRMX ts) okWtS (okWaj _ j)) _) noL_ok fun on out => p6mNN w now t n i cc j xs vs ts _ on out (h25 := ⟨r1, r2, rfl, q4, hj⟩)
        unfold hp6
        rw [r1] at c
        exact c
      | some q =>
        obtain ⟨a, m⟩ := q
        obtain ⟨_, j0, hw, hj0, rfl, rfl⟩ := hwait a m rfl
        have c := CodeT.on (SpecOK.on (S6m_ok okMsgN (okRMX ts) okWtS (okWaj _ j)) _) noL_ok fun on out => p6mNS w now (ts.getD j0 th0).a t (ts.getD j0 th0).m n i cc j xs vs ts _ on out (h25 := ⟨r1, r2, rfl, q4, hj⟩)
        unfold hp6
        rw [r1] at c
        exact c
    · have cn : (vs.getD (i * 9 + 8) (FV.b false)).asB = false := by simpa using cn
      by_cases cp : xs.getD 8 0 ≠ 0 ∧ t = false ∧ (vs.getD (i * 9 + 2) (FV.b false)).asI - lastR xs ≤ w ∧ cnt (allX xs) ((vs.getD (i * 9 + 2) (FV.b false)).asI - w) (vs.getD (i * 9 + 2) (FV.b false)).asI = 1
      · obtain ⟨j, hj, hok, hlj⟩ := hyes cp
        have hP := hP ⟨(vs.getD (i * 9 + 3) (FV.b false)).asI, (vs.getD (i * 9 + 4) (FV.b false)).asB, (vs.getD (i * 9 + 5) (FV.b false)).asI, (vs.getD (i * 9 + 6) (FV.b false)).asB, (vs.getD (i * 9 + 7) (FV.b false)).asI, (vs.getD (i * 9 + 8) (FV.b false)).asB⟩ j cn hok.1 hj
        have r1 : ts.length + 1 = ((ts ++ [tM (vs.getD (i * 9 + 2) (FV.b false)).asI ⟨(vs.getD (i * 9 + 3) (FV.b false)).asI, (vs.getD (i * 9 + 4) (FV.b false)).asB, (vs.getD (i * 9 + 5) (FV.b false)).asI, (vs.getD (i * 9 + 6) (FV.b false)).asB, (vs.getD (i * 9 + 7) (FV.b false)).asI, (vs.getD (i * 9 + 8) (FV.b false)).asB⟩]).set j (setI (ts.getD j th0))).length := by rw [List.length_set]; exact r1 _
        have r2 : (ts.length + 1) * 10 = ((ts ++ [tM (vs.getD (i * 9 + 2) (FV.b false)).asI ⟨(vs.getD (i * 9 + 3) (FV.b false)).asI, (vs.getD (i * 9 + 4) (FV.b false)).asB, (vs.getD (i * 9 + 5) (FV.b false)).asI, (vs.getD (i * 9 + 6) (FV.b false)).asB, (vs.getD (i * 9 + 7) (FV.b false)).asI, (vs.getD (i * 9 + 8) (FV.b false)).asB⟩]).set j (setI (ts.getD j th0))).length * 10 := by rw [← r1]
        have hq : now ≤ (vs.getD (i * 9 + 2) (FV.b false)).asI ∧ (vs.getD (i * 9 + 8) (FV.b false)).asB = false ∧ 0 ≤ now ∧ 0 ≤ w ∧ w ≤ 1000000000 ∧ 0 ≤ xs.getD 8 0 ∧ xs.getD 8 0 ≤ 1000 ∧ (xs.getD 8 0 = 0 ∨ 0 ≤ lastR xs ∧ lastR xs ≤ (vs.getD (i * 9 + 2) (FV.b false)).asI) ∧ xs.getD 8 0 ≠ 0 ∧ t = false ∧ (vs.getD (i * 9 + 2) (FV.b false)).asI - lastR xs ≤ w ∧ cnt (allX xs) ((vs.getD (i * 9 + 2) (FV.b false)).asI - w) (vs.getD (i * 9 + 2) (FV.b false)).asI = 1 := ⟨hc, cn, hn0, hw0, hw2, q1, q2, hlr, cp⟩
        refine ⟨_, hP, ?_⟩
        cases wt with
        | none =>
          have r3 := hP.idle rfl
          have c := CodeT.on (SpecOK.on (S6m_ok okMsgP (okRMP ts j) okWtN (okWan _)) _) noL_ok fun on out => p6mPN w now t n i cc j xs vs ts _ on out (h32 := ⟨r1, r2, rfl, q4, r3⟩)
          unfold hp6
          rw [r1] at c
          exact c
        | some q =>
          obtain ⟨a, m⟩ := q
          obtain ⟨_, j0, hw, hj0, rfl, rfl⟩ := hwait a m rfl
          obtain ⟨_, j1, r3, _⟩ := hP.wait _ _ rfl
          have c := CodeT.on (SpecOK.on (S6m_ok okMsgP (okRMP ts j) okWtS (okWaj _ j1)) _) noL_ok fun on out => p6mPS w now (ts.getD j0 th0).a t (ts.getD j0 th0).m n i cc j1 j xs vs ts _ on out (h32 := ⟨r1, r2, rfl, q4, r3⟩)
          unfold hp6
          rw [r1] at c
          exact c
      · have hno := hno cp
        have hX := hX ⟨(vs.getD (i * 9 + 3) (FV.b false)).asI, (vs.getD (i * 9 + 4) (FV.b false)).asB, (vs.getD (i * 9 + 5) (FV.b false)).asI, (vs.getD (i * 9 + 6) (FV.b false)).asB, (vs.getD (i * 9 + 7) (FV.b false)).asI, (vs.getD (i * 9 + 8) (FV.b false)).asB⟩ cn
        have r1 := r1 (tM (vs.getD (i * 9 + 2) (FV.b false)).asI ⟨(vs.getD (i * 9 + 3) (FV.b false)).asI, (vs.getD (i * 9 + 4) (FV.b false)).asB, (vs.getD (i * 9 + 5) (FV.b false)).asI, (vs.getD (i * 9 + 6) (FV.b false)).asB, (vs.getD (i * 9 + 7) (FV.b false)).asI, (vs.getD (i * 9 + 8) (FV.b false)).asB⟩)
        have r2 := r2 (tM (vs.getD (i * 9 + 2) (FV.b false)).asI ⟨(vs.getD (i * 9 + 3) (FV.b false)).asI, (vs.getD (i * 9 + 4) (FV.b false)).asB, (vs.getD (i * 9 + 5) (FV.b false)).asI, (vs.getD (i * 9 + 6) (FV.b false)).asB, (vs.getD (i * 9 + 7) (FV.b false)).asI, (vs.getD (i * 9 + 8) (FV.b false)).asB⟩)
        have hxs : (vs.getD (i * 9 + 8) (FV.b false)).asB = true ∨ noP ts w (vs.getD (i * 9 + 2) (FV.b false)).asI := .inr hno
        have hq : now ≤ (vs.getD (i * 9 + 2) (FV.b false)).asI ∧ (vs.getD (i * 9 + 8) (FV.b false)).asB = false ∧ 0 ≤ now ∧ 0 ≤ w ∧ w ≤ 1000000000 ∧ 0 ≤ xs.getD 8 0 ∧ xs.getD 8 0 ≤ 1000 ∧ (xs.getD 8 0 = 0 ∨ 0 ≤ lastR xs ∧ lastR xs ≤ (vs.getD (i * 9 + 2) (FV.b false)).asI) ∧ (xs.getD 8 0 = 0 ∨ t = true ∨ w < (vs.getD (i * 9 + 2) (FV.b false)).asI - lastR xs ∨ cnt (allX xs) ((vs.getD (i * 9 + 2) (FV.b false)).asI - w) (vs.getD (i * 9 + 2) (FV.b false)).asI ≠ 1) := by
          refine ⟨hc, cn, hn0, hw0, hw2, q1, q2, hlr, ?_⟩
          by_cases d1 : xs.getD 8 0 = 0
          · exact .inl d1
          · cases t with
            | true => exact .inr (.inl rfl)
            | false =>
              by_cases d2 : w < (vs.getD (i * 9 + 2) (FV.b false)).asI - lastR xs
              · exact .inr (.inr (.inl d2))
              · exact .inr (.inr (.inr fun d3 => cp ⟨d1, rfl, by omega, d3⟩))
        refine ⟨_, hX, ?_⟩
        cases wt with
        | none =>
          have r3 := hX.idle rfl
          have c := CodeT.on (SpecOK.on (S6m_ok okMsgX (okRMX ts) okWtN (okWan _)) _) noL_ok fun on out => p6mXN w now t n i cc xs vs ts _ on out (h25 := ⟨r1, r2, rfl, q4, r3⟩)
          unfold hp6
          rw [r1] at c
          exact c
        | some q =>
          obtain ⟨a, m⟩ := q
          obtain ⟨_, j0, hw, hj0, rfl, rfl⟩ := hwait a m rfl
          obtain ⟨_, j1, r3, _⟩ := hX.wait _ _ rfl
          have c := CodeT.on (SpecOK.on (S6m_ok okMsgX (okRMX ts) okWtS (okWaj _ j1)) _) noL_ok fun on out => p6mXS w now (ts.getD j0 th0).a t (ts.getD j0 th0).m n i cc j1 xs vs ts _ on out (h25 := ⟨r1, r2, rfl, q4, r3⟩)
          unfold hp6
          rw [r1] at c
          exact c
  · have hm : ¬ mayP s.ts (vs.getD (i * 9 + 2) (FV.b false)).asI := fun e => hc (hmay.1 e)
    have q3 : s.ts.length ≤ 60 := by omega
    have hL := h.later
    have hwait := h.wait
    have hidle := h.idle
    obtain ⟨now, t, xs, wt, ts, cc⟩ := s
    simp only at *
    refine ⟨_, hL, ?_⟩
    cases wt with
    | none =>
      have hw := hidle rfl
      exact CodeT.on (SpecOK.on (S6m_ok okMsgR (okRMR ts) okWtN (okWan ts)) _) noL_ok fun on out => p6mRN w now t n i cc xs vs ts on out
    | some q =>
      obtain ⟨a, m⟩ := q
      obtain ⟨hmn, j, hw, hj, rfl, rfl⟩ := hwait a m rfl
      exact CodeT.on (SpecOK.on (S6m_ok okMsgR (okRMR ts) okWtS (okWaj ts j)) _) noL_ok fun on out => p6mRS w now (ts.getD j th0).a t (ts.getD j th0).m n i cc j xs vs ts on out
end Go.Proofs.Ytpidmcpnkfgcjaa.VC
