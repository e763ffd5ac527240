/- PairPlays: the step: an edge. -/
import Derived.Test.YtpidmcpnkfgcjaaP15
namespace Go.Proofs.Ytpidmcpnkfgcjaa.VC
open Go Go.Proofs

def Step6 (w : Int) (n : Nat) (vs : List FV) (i : Nat) (s : S6) : Prop := ∃ s', Plays w (i + 1) s' ∧ CodeT Try.prog Try.f6.ntmps 1 (loopOf Try.f6 0) (zipS live6 (st6 n i s)) (hp6 w n vs s) .normal (zipS live6 (st6 n (i + 1) s')) (hp6 w n vs s')
theorem step6e {w : Int} {n : Nat} {vs : List FV} (hn : n ≤ 60) (hk : KindsOK opK' n vs) {i : Nat} (hi : i < n) {s : S6} (h : Plays w i s)
    (c1 : (vs.getD (i * 9 + 1) (FV.b false)).asB = false) (c2 : (vs.getD (i * 9) (FV.b false)).asB = true) : Step6 w n vs i s := by
  have g0 : (vs.getD (i * 9) (FV.b false)).isB = true := hk.b (j := 0) hi rfl
  have g1 : (vs.getD (i * 9 + 1) (FV.b false)).isB = true := hk.b (j := 1) hi rfl
  have g2 : FV.isI .i64 (vs.getD (i * 9 + 2) (FV.b false)) = true := hk.i (j := 2) hi rfl
  have g3 : FV.isI .u8 (vs.getD (i * 9 + 3) (FV.b false)) = true := hk.i (j := 3) hi rfl
  have g4 : (vs.getD (i * 9 + 4) (FV.b false)).isB = true := hk.b (j := 4) hi rfl
  have g5 : FV.isI .i64 (vs.getD (i * 9 + 5) (FV.b false)) = true := hk.i (j := 5) hi rfl
  have g6 : (vs.getD (i * 9 + 6) (FV.b false)).isB = true := hk.b (j := 6) hi rfl
  have g7 : FV.isI .i64 (vs.getD (i * 9 + 7) (FV.b false)) = true := hk.i (j := 7) hi rfl
  have g8 : (vs.getD (i * 9 + 8) (FV.b false)).isB = true := hk.b (j := 8) hi rfl
  have hsm := h.small
  have hnum := h.ring.num
  have hal := edgT_len s.ts s.ts.length
  have hw0 := h.w0
  have hw1 := h.w1
  have hn0 := h.now0
  have hmay := h.may (c := (vs.getD (i * 9 + 2) (FV.b false)).asI)
  by_cases hc : s.now ≤ (vs.getD (i * 9 + 2) (FV.b false)).asI
  · have hm := hmay.2 hc
    have hlow := h.low hc
    have q1 : 0 ≤ s.xs.getD 8 0 := by omega
    have q2 : s.xs.getD 8 0 ≤ 1000 := by omega
    have q3 : s.ts.length ≤ 60 := by omega
    have q4 : s.ts.length + 1 ≤ 60 := by omega
    have hE := h.edge hc
    have hO := fun j hw hj => h.out (j := j) hc hw hj
    have hI := fun j hw hj => h.into (j := j) hc hw hj
    have hwait := h.wait
    have hidle := h.idle
    have hrise := h.rise
    obtain ⟨now, t, xs, wt, ts, cc⟩ := s
    simp only at *
    cases wt with
    | none =>
      have hw := hidle rfl
      refine ⟨_, hE, ?_⟩
      have r1 : ts.length + 1 = (ts ++ [tE (vs.getD (i * 9 + 2) (FV.b false)).asI]).length := snoc_len.symm
      have r2 : (ts.length + 1) * 10 = (ts ++ [tE (vs.getD (i * 9 + 2) (FV.b false)).asI]).length * 10 := by rw [← r1]
      have r3 := hE.idle rfl
      have key := fun on out => p6eN w now t n i cc xs vs ts (ts ++ [tE (vs.getD (i * 9 + 2) (FV.b false)).asI]) on out
      have c := CodeT.on (SpecOK.on (S6e_ok okEdgN (okREN ts) okWtN (okWan _)) _) noL_ok key
      unfold hp6
      rw [r1] at c
      exact c
    | some q =>
      obtain ⟨a, m⟩ := q
      obtain ⟨hmn, j, hw, hj, rfl, rfl⟩ := hwait a m rfl
      have hle := may_le hrise hm hj
      by_cases hf : (vs.getD (i * 9 + 2) (FV.b false)).asI - (ts.getD j th0).a ≤ w
      · have hI := hI j hw hj
        refine ⟨_, hI, ?_⟩
        have r1 : ts.length + 1 = (((ts ++ [tE (vs.getD (i * 9 + 2) (FV.b false)).asI]).set j (setG (ts.getD j th0))).set ts.length (setI (tE (vs.getD (i * 9 + 2) (FV.b false)).asI))).length := by rw [List.length_set, List.length_set, snoc_len]
        have r2 : (ts.length + 1) * 10 = (((ts ++ [tE (vs.getD (i * 9 + 2) (FV.b false)).asI]).set j (setG (ts.getD j th0))).set ts.length (setI (tE (vs.getD (i * 9 + 2) (FV.b false)).asI))).length * 10 := by rw [← r1]
        have r3 := hI.idle rfl
        have key := fun on out => p6eI w now (ts.getD j th0).a t (ts.getD j th0).m n i cc j xs vs ts (((ts ++ [tE (vs.getD (i * 9 + 2) (FV.b false)).asI]).set j (setG (ts.getD j th0))).set ts.length (setI (tE (vs.getD (i * 9 + 2) (FV.b false)).asI))) on out
        have c := CodeT.on (SpecOK.on (S6e_ok okEdgI (okREI ts j) okWtN (okWan _)) _) noL_ok key
        unfold hp6
        rw [r1] at c
        exact c
      · have hO := hO j hw hj
        refine ⟨_, hO, ?_⟩
        have r1 : ts.length + 1 = ((ts ++ [tE (vs.getD (i * 9 + 2) (FV.b false)).asI]).set j (setG (ts.getD j th0))).length := by rw [List.length_set, snoc_len]
        have r2 : (ts.length + 1) * 10 = ((ts ++ [tE (vs.getD (i * 9 + 2) (FV.b false)).asI]).set j (setG (ts.getD j th0))).length * 10 := by rw [← r1]
        have r3 := hO.idle rfl
        have key := fun on out => p6eO w now (ts.getD j th0).a t (ts.getD j th0).m n i cc j xs vs ts ((ts ++ [tE (vs.getD (i * 9 + 2) (FV.b false)).asI]).set j (setG (ts.getD j th0))) on out
        have c := CodeT.on (SpecOK.on (S6e_ok okEdgO (okREO ts j) okWtN (okWan _)) _) noL_ok key
        unfold hp6
        rw [r1] at c
        exact c
  · have hm : ¬ mayP s.ts (vs.getD (i * 9 + 2) (FV.b false)).asI := fun e => hc (hmay.1 e)
    have q3 : s.ts.length ≤ 60 := by omega
    have hL := h.later
    have hwait := h.wait
    have hidle := h.idle
    obtain ⟨now, t, xs, wt, ts, cc⟩ := s
    simp only at *
    refine ⟨_, hL, ?_⟩
    cases wt with
    | none =>
      have hw := hidle rfl
      exact CodeT.on (SpecOK.on (S6e_ok okEdgR (okRER ts) okWtN (okWan ts)) _) noL_ok fun on out => p6eRN w now t n i cc xs vs ts on out
    | some q =>
      obtain ⟨a, m⟩ := q
      obtain ⟨hmn, j, hw, hj, rfl, rfl⟩ := hwait a m rfl
      exact CodeT.on (SpecOK.on (S6e_ok okEdgR (okRER ts) okWtS (okWaj ts j)) _) noL_ok fun on out => p6eRS w now (ts.getD j th0).a t (ts.getD j th0).m n i cc j xs vs ts on out
end Go.Proofs.Ytpidmcpnkfgcjaa.VC
