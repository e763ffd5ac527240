/- PairPlays: the step: a copy. -/
import Derived.Test.YtpidmcpnkfgcjaaP17
namespace Go.Proofs.Ytpidmcpnkfgcjaa.VC
open Go Go.Proofs

theorem step6c {w : Int} {n : Nat} {vs : List FV} (hn : n ≤ 60) (hk : KindsOK opK' n vs) {i : Nat} (hi : i < n) {s : S6} (h : Plays w i s)
    (c1 : (vs.getD (i * 9 + 1) (FV.b false)).asB = true) : Step6 w n vs i s := by
  have g0 : (vs.getD (i * 9) (FV.b false)).isB = true := hk.b (j := 0) hi rfl
  have g1 : (vs.getD (i * 9 + 1) (FV.b false)).isB = true := hk.b (j := 1) hi rfl
  have g2 : FV.isI .i64 (vs.getD (i * 9 + 2) (FV.b false)) = true := hk.i (j := 2) hi rfl
  have g3 : FV.isI .u8 (vs.getD (i * 9 + 3) (FV.b false)) = true := hk.i (j := 3) hi rfl
  have g4 : (vs.getD (i * 9 + 4) (FV.b false)).isB = true := hk.b (j := 4) hi rfl
  have g5 : FV.isI .i64 (vs.getD (i * 9 + 5) (FV.b false)) = true := hk.i (j := 5) hi rfl
  have g6 : (vs.getD (i * 9 + 6) (FV.b false)).isB = true := hk.b (j := 6) hi rfl
  have g7 : FV.isI .i64 (vs.getD (i * 9 + 7) (FV.b false)) = true := hk.i (j := 7) hi rfl
  have g8 : (vs.getD (i * 9 + 8) (FV.b false)).isB = true := hk.b (j := 8) hi rfl
  have hsm := h.small
  have hnum := h.ring.num
  have hal := edgT_len s.ts s.ts.length
  have hlen := h.ring.len
  have hw0 := h.w0
  have hw1 := h.w1
  have hw2 : w ≤ 1000000000 := by omega
  have hn0 := h.now0
  have hmay := h.may (c := (vs.getD (i * 9 + 2) (FV.b false)).asI)
  have hC := h.copy
  have q3 : s.ts.length ≤ 60 := by omega
  have hwait := h.wait
  have hidle := h.idle
  by_cases hc : s.now ≤ (vs.getD (i * 9 + 2) (FV.b false)).asI
  · have hlow := h.low hc
    have hm := hmay.2 hc
    have hlp := lastR_push h.ring (vs.getD (i * 9 + 2) (FV.b false)).asI
    have hpn := (h.ring.push (vs.getD (i * 9 + 2) (FV.b false)).asI).num
    rw [List.length_append, List.length_singleton] at hpn
    have hrise := h.rise
    obtain ⟨now, t, xs, wt, ts, cc⟩ := s
    simp only at *
    have q1 : 0 ≤ xs.getD 8 0 := by omega
    have q2 : xs.getD 8 0 ≤ 1000 := by omega
    have hc0 : 0 ≤ (vs.getD (i * 9 + 2) (FV.b false)).asI := by omega
    have p1 : 0 ≤ (pushR xs (vs.getD (i * 9 + 2) (FV.b false)).asI).getD 8 0 := by omega
    have p2 : (pushR xs (vs.getD (i * 9 + 2) (FV.b false)).asI).getD 8 0 ≤ 1000 := by omega
    have p3 : (pushR xs (vs.getD (i * 9 + 2) (FV.b false)).asI).getD 8 0 ≠ 0 := by omega
    refine ⟨_, hC, ?_⟩
    cases wt with
    | none =>
      have hw := hidle rfl
      by_cases cn : (vs.getD (i * 9 + 8) (FV.b false)).asB = true
      · exact CodeT.on (SpecOK.on (S6c_ok okCpyN (okDCpy ts) okEdgN okMsgN okWtN (okWan ts)) _) noL_ok fun on out => p6cNN w now t n i cc xs vs ts on out
      · have cn : (vs.getD (i * 9 + 8) (FV.b false)).asB = false := by simpa using cn
        by_cases cp : cnt (allX (pushR xs (vs.getD (i * 9 + 2) (FV.b false)).asI)) ((vs.getD (i * 9 + 2) (FV.b false)).asI - w) (vs.getD (i * 9 + 2) (FV.b false)).asI = 1
        · have hq : (vs.getD (i * 9 + 2) (FV.b false)).asI ≤ (vs.getD (i * 9 + 2) (FV.b false)).asI ∧ (vs.getD (i * 9 + 8) (FV.b false)).asB = false ∧ 0 ≤ (vs.getD (i * 9 + 2) (FV.b false)).asI ∧ 0 ≤ w ∧ w ≤ 1000000000 ∧ 0 ≤ (pushR xs (vs.getD (i * 9 + 2) (FV.b false)).asI).getD 8 0 ∧ (pushR xs (vs.getD (i * 9 + 2) (FV.b false)).asI).getD 8 0 ≤ 1000 ∧ ((pushR xs (vs.getD (i * 9 + 2) (FV.b false)).asI).getD 8 0 = 0 ∨ 0 ≤ lastR (pushR xs (vs.getD (i * 9 + 2) (FV.b false)).asI) ∧ lastR (pushR xs (vs.getD (i * 9 + 2) (FV.b false)).asI) ≤ (vs.getD (i * 9 + 2) (FV.b false)).asI) ∧ (pushR xs (vs.getD (i * 9 + 2) (FV.b false)).asI).getD 8 0 ≠ 0 ∧ false = false ∧ (vs.getD (i * 9 + 2) (FV.b false)).asI - lastR (pushR xs (vs.getD (i * 9 + 2) (FV.b false)).asI) ≤ w ∧ cnt (allX (pushR xs (vs.getD (i * 9 + 2) (FV.b false)).asI)) ((vs.getD (i * 9 + 2) (FV.b false)).asI - w) (vs.getD (i * 9 + 2) (FV.b false)).asI = 1 := ⟨Int.le_refl _, cn, hc0, hw0, hw2, p1, p2, .inr ⟨by rw [hlp]; exact hc0, by rw [hlp]; exact Int.le_refl _⟩, p3, rfl, by rw [hlp]; omega, cp⟩
          exact CodeT.on (SpecOK.on (S6c_ok okCpyN (okDCpy ts) okEdgN okMsgP okWtN (okWan ts)) _) noL_ok fun on out => p6cNP w now t n i cc xs vs ts on out
        · have hq : (vs.getD (i * 9 + 2) (FV.b false)).asI ≤ (vs.getD (i * 9 + 2) (FV.b false)).asI ∧ (vs.getD (i * 9 + 8) (FV.b false)).asB = false ∧ 0 ≤ (vs.getD (i * 9 + 2) (FV.b false)).asI ∧ 0 ≤ w ∧ w ≤ 1000000000 ∧ 0 ≤ (pushR xs (vs.getD (i * 9 + 2) (FV.b false)).asI).getD 8 0 ∧ (pushR xs (vs.getD (i * 9 + 2) (FV.b false)).asI).getD 8 0 ≤ 1000 ∧ ((pushR xs (vs.getD (i * 9 + 2) (FV.b false)).asI).getD 8 0 = 0 ∨ 0 ≤ lastR (pushR xs (vs.getD (i * 9 + 2) (FV.b false)).asI) ∧ lastR (pushR xs (vs.getD (i * 9 + 2) (FV.b false)).asI) ≤ (vs.getD (i * 9 + 2) (FV.b false)).asI) ∧ ((pushR xs (vs.getD (i * 9 + 2) (FV.b false)).asI).getD 8 0 = 0 ∨ false = true ∨ w < (vs.getD (i * 9 + 2) (FV.b false)).asI - lastR (pushR xs (vs.getD (i * 9 + 2) (FV.b false)).asI) ∨ cnt (allX (pushR xs (vs.getD (i * 9 + 2) (FV.b false)).asI)) ((vs.getD (i * 9 + 2) (FV.b false)).asI - w) (vs.getD (i * 9 + 2) (FV.b false)).asI ≠ 1) := ⟨Int.le_refl _, cn, hc0, hw0, hw2, p1, p2, .inr ⟨by rw [hlp]; exact hc0, by rw [hlp]; exact Int.le_refl _⟩, .inr (.inr (.inr cp))⟩
          exact CodeT.on (SpecOK.on (S6c_ok okCpyN (okDCpy ts) okEdgN okMsgX okWtN (okWan ts)) _) noL_ok fun on out => p6cNX w now t n i cc xs vs ts on out
    | some q =>
      obtain ⟨a, m⟩ := q
      obtain ⟨hmn, j, hw, hj, rfl, rfl⟩ := hwait a m rfl
      have hle := may_le hrise hm hj
      by_cases hf : (vs.getD (i * 9 + 2) (FV.b false)).asI - (ts.getD j th0).a ≤ w
      · by_cases cn : (vs.getD (i * 9 + 8) (FV.b false)).asB = true
        · exact CodeT.on (SpecOK.on (S6c_ok okCpyS (okDCpy ts) okEdgI okMsgN okWtS (okWaj ts j)) _) noL_ok fun on out => p6cIN w now (ts.getD j th0).a t (ts.getD j th0).m n i cc j xs vs ts on out
        · have cn : (vs.getD (i * 9 + 8) (FV.b false)).asB = false := by simpa using cn
          have hq : (vs.getD (i * 9 + 2) (FV.b false)).asI ≤ (vs.getD (i * 9 + 2) (FV.b false)).asI ∧ (vs.getD (i * 9 + 8) (FV.b false)).asB = false ∧ 0 ≤ (vs.getD (i * 9 + 2) (FV.b false)).asI ∧ 0 ≤ w ∧ w ≤ 1000000000 ∧ 0 ≤ (pushR xs (vs.getD (i * 9 + 2) (FV.b false)).asI).getD 8 0 ∧ (pushR xs (vs.getD (i * 9 + 2) (FV.b false)).asI).getD 8 0 ≤ 1000 ∧ ((pushR xs (vs.getD (i * 9 + 2) (FV.b false)).asI).getD 8 0 = 0 ∨ 0 ≤ lastR (pushR xs (vs.getD (i * 9 + 2) (FV.b false)).asI) ∧ lastR (pushR xs (vs.getD (i * 9 + 2) (FV.b false)).asI) ≤ (vs.getD (i * 9 + 2) (FV.b false)).asI) ∧ ((pushR xs (vs.getD (i * 9 + 2) (FV.b false)).asI).getD 8 0 = 0 ∨ true = true ∨ w < (vs.getD (i * 9 + 2) (FV.b false)).asI - lastR (pushR xs (vs.getD (i * 9 + 2) (FV.b false)).asI) ∨ cnt (allX (pushR xs (vs.getD (i * 9 + 2) (FV.b false)).asI)) ((vs.getD (i * 9 + 2) (FV.b false)).asI - w) (vs.getD (i * 9 + 2) (FV.b false)).asI ≠ 1) := ⟨Int.le_refl _, cn, hc0, hw0, hw2, p1, p2, .inr ⟨by rw [hlp]; exact hc0, by rw [hlp]; exact Int.le_refl _⟩, .inr (.inl rfl)⟩
          exact CodeT.on (SpecOK.on (S6c_ok okCpyS (okDCpy ts) okEdgI okMsgX okWtS (okWaj ts j)) _) noL_ok fun on out => p6cIX w now (ts.getD j th0).a t (ts.getD j th0).m n i cc j xs vs ts on out
      · by_cases cn : (vs.getD (i * 9 + 8) (FV.b false)).asB = true
        · exact CodeT.on (SpecOK.on (S6c_ok okCpyS (okDCpy ts) okEdgO okMsgN okWtS (okWaj ts j)) _) noL_ok fun on out => p6cON w now (ts.getD j th0).a t (ts.getD j th0).m n i cc j xs vs ts on out
        · have cn : (vs.getD (i * 9 + 8) (FV.b false)).asB = false := by simpa using cn
          by_cases cp : cnt (allX (pushR xs (vs.getD (i * 9 + 2) (FV.b false)).asI)) ((vs.getD (i * 9 + 2) (FV.b false)).asI - w) (vs.getD (i * 9 + 2) (FV.b false)).asI = 1
          · have hq : (vs.getD (i * 9 + 2) (FV.b false)).asI ≤ (vs.getD (i * 9 + 2) (FV.b false)).asI ∧ (vs.getD (i * 9 + 8) (FV.b false)).asB = false ∧ 0 ≤ (vs.getD (i * 9 + 2) (FV.b false)).asI ∧ 0 ≤ w ∧ w ≤ 1000000000 ∧ 0 ≤ (pushR xs (vs.getD (i * 9 + 2) (FV.b false)).asI).getD 8 0 ∧ (pushR xs (vs.getD (i * 9 + 2) (FV.b false)).asI).getD 8 0 ≤ 1000 ∧ ((pushR xs (vs.getD (i * 9 + 2) (FV.b false)).asI).getD 8 0 = 0 ∨ 0 ≤ lastR (pushR xs (vs.getD (i * 9 + 2) (FV.b false)).asI) ∧ lastR (pushR xs (vs.getD (i * 9 + 2) (FV.b false)).asI) ≤ (vs.getD (i * 9 + 2) (FV.b false)).asI) ∧ (pushR xs (vs.getD (i * 9 + 2) (FV.b false)).asI).getD 8 0 ≠ 0 ∧ false = false ∧ (vs.getD (i * 9 + 2) (FV.b false)).asI - lastR (pushR xs (vs.getD (i * 9 + 2) (FV.b false)).asI) ≤ w ∧ cnt (allX (pushR xs (vs.getD (i * 9 + 2) (FV.b false)).asI)) ((vs.getD (i * 9 + 2) (FV.b false)).asI - w) (vs.getD (i * 9 + 2) (FV.b false)).asI = 1 := ⟨Int.le_refl _, cn, hc0, hw0, hw2, p1, p2, .inr ⟨by rw [hlp]; exact hc0, by rw [hlp]; exact Int.le_refl _⟩, p3, rfl, by rw [hlp]; omega, cp⟩
            exact CodeT.on (SpecOK.on (S6c_ok okCpyS (okDCpy ts) okEdgO okMsgP okWtS (okWaj ts j)) _) noL_ok fun on out => p6cOP w now (ts.getD j th0).a t (ts.getD j th0).m n i cc j xs vs ts on out
          · have hq : (vs.getD (i * 9 + 2) (FV.b false)).asI ≤ (vs.getD (i * 9 + 2) (FV.b false)).asI ∧ (vs.getD (i * 9 + 8) (FV.b false)).asB = false ∧ 0 ≤ (vs.getD (i * 9 + 2) (FV.b false)).asI ∧ 0 ≤ w ∧ w ≤ 1000000000 ∧ 0 ≤ (pushR xs (vs.getD (i * 9 + 2) (FV.b false)).asI).getD 8 0 ∧ (pushR xs (vs.getD (i * 9 + 2) (FV.b false)).asI).getD 8 0 ≤ 1000 ∧ ((pushR xs (vs.getD (i * 9 + 2) (FV.b false)).asI).getD 8 0 = 0 ∨ 0 ≤ lastR (pushR xs (vs.getD (i * 9 + 2) (FV.b false)).asI) ∧ lastR (pushR xs (vs.getD (i * 9 + 2) (FV.b false)).asI) ≤ (vs.getD (i * 9 + 2) (FV.b false)).asI) ∧ ((pushR xs (vs.getD (i * 9 + 2) (FV.b false)).asI).getD 8 0 = 0 ∨ false = true ∨ w < (vs.getD (i * 9 + 2) (FV.b false)).asI - lastR (pushR xs (vs.getD (i * 9 + 2) (FV.b false)).asI) ∨ cnt (allX (pushR xs (vs.getD (i * 9 + 2) (FV.b false)).asI)) ((vs.getD (i * 9 + 2) (FV.b false)).asI - w) (vs.getD (i * 9 + 2) (FV.b false)).asI ≠ 1) := ⟨Int.le_refl _, cn, hc0, hw0, hw2, p1, p2, .inr ⟨by rw [hlp]; exact hc0, by rw [hlp]; exact Int.le_refl _⟩, .inr (.inr (.inr cp))⟩
            exact CodeT.on (SpecOK.on (S6c_ok okCpyS (okDCpy ts) okEdgO okMsgX okWtS (okWaj ts j)) _) noL_ok fun on out => p6cOX w now (ts.getD j th0).a t (ts.getD j th0).m n i cc j xs vs ts on out
  · obtain ⟨now, t, xs, wt, ts, cc⟩ := s
    simp only at *
    refine ⟨_, hC, ?_⟩
    cases wt with
    | none =>
      have hw := hidle rfl
      exact CodeT.on (SpecOK.on (S6c_ok okCpyN (okDCpy ts) okEdgR okMsgR okWtN (okWan ts)) _) noL_ok fun on out => p6cRN w now t n i cc xs vs ts on out
    | some q =>
      obtain ⟨a, m⟩ := q
      obtain ⟨hmn, j, hw, hj, rfl, rfl⟩ := hwait a m rfl
      exact CodeT.on (SpecOK.on (S6c_ok okCpyS (okDCpy ts) okEdgR okMsgR okWtS (okWaj ts j)) _) noL_ok fun on out => p6cRS w now (ts.getD j th0).a t (ts.getD j th0).m n i cc j xs vs ts on out
end Go.Proofs.Ytpidmcpnkfgcjaa.VC
