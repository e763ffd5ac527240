/- PairPlays: the invariant, plain. -/
import Derived.Test.YtpidmcpnkfgcjaaT3
import Derived.Test.YtpidmcpnkfgcjaaP14S
namespace Go.Proofs.Ytpidmcpnkfgcjaa.VC
open Go Go.Proofs

theorem lastI_some {ts : List Th} {j : Nat} : lastI ts = j ↔ fdn pE ts ts.length = some j := by
  unfold lastI
  cases h : fdn pE ts ts.length with
  | none => exact ⟨fun e => by simp only at e; omega, fun e => by cases e⟩
  | some i => exact ⟨fun e => by simp only at e; rw [show i = j by omega], fun e => by cases e; rfl⟩
/-- The pairing's test is the document's. -/
theorem pair_yes {w c : Int} {t : Bool} {xs : List Int} {ts : List Th} (hr : Ring xs (edgT ts ts.length)) (ht : ∀ j : Nat, lastI ts = j → t = (ts.getD j th0).i)
    (h : xs.getD 8 0 ≠ 0 ∧ t = false ∧ c - lastR xs ≤ w ∧ cnt (allX xs) (c - w) c = 1) : ∃ j : Nat, j < ts.length ∧ okP ts w c j ∧ lastR xs = (ts.getD j th0).a := by
  obtain ⟨h1, h2, h3, h4⟩ := h
  have hn := hr.num
  rcases lastI_cases ts with ⟨hl, _⟩ | ⟨j, hl, hj, _⟩
  · have hf : fdn pE ts ts.length = none := by
      cases hf : fdn pE ts ts.length with
      | none => rfl
      | some i => have := lastI_some.2 hf; omega
    rw [(last_edge).1 hf] at hn
    exact (h1 hn).elim
  · have hf := lastI_some.1 hl
    obtain ⟨hne, hla⟩ := (last_edge).2 j hf
    have hlr : lastR xs = (ts.getD j th0).a := by
      have hpos : 0 < (edgT ts ts.length).length := List.length_pos_iff.2 hne
      unfold lastR
      rw [hn, show ((((edgT ts ts.length).length : Nat) : Int) - 1) % 8 = ((((edgT ts ts.length).length - 1) % 8 : Nat) : Int) by omega, Int.toNat_natCast, hr.kept _ (by omega) (by omega)]
      exact hla
    refine ⟨j, hj, ⟨hl, ?_, ?_, ?_⟩, hlr⟩
    · rw [← ht j hl]; exact h2
    · rw [← hlr]; exact h3
    · unfold cntT
      rw [(log_play ts ts.length).cur, ← all_kept hr]; exact h4
theorem pair_no {w c : Int} {t : Bool} {xs : List Int} {ts : List Th} (hr : Ring xs (edgT ts ts.length)) (ht : ∀ j : Nat, lastI ts = j → t = (ts.getD j th0).i)
    (h : ¬ (xs.getD 8 0 ≠ 0 ∧ t = false ∧ c - lastR xs ≤ w ∧ cnt (allX xs) (c - w) c = 1)) : noP ts w c := by
  intro j hk
  obtain ⟨hl, hi, hw, hc⟩ := hk
  apply h
  have hn := hr.num
  have hf := lastI_some.1 hl
  obtain ⟨hne, hla⟩ := (last_edge).2 j hf
  have hpos : 0 < (edgT ts ts.length).length := List.length_pos_iff.2 hne
  have hlr : lastR xs = (ts.getD j th0).a := by
    unfold lastR
    rw [hn, show ((((edgT ts ts.length).length : Nat) : Int) - 1) % 8 = ((((edgT ts ts.length).length - 1) % 8 : Nat) : Int) by omega, Int.toNat_natCast, hr.kept _ (by omega) (by omega)]
    exact hla
  refine ⟨by omega, ?_, ?_, ?_⟩
  · rw [ht j hl]; exact hi
  · rw [hlr]; exact hw
  · unfold cntT at hc
    rw [(log_play ts ts.length).cur, ← all_kept hr] at hc; exact hc
/-- The law's state. -/
structure S6 where
  now : Int
  t : Bool
  xs : List Int
  wt : Option (Int × Ms)
  ts : List Th
  cc : Nat
structure Plays (w : Int) (i : Nat) (s : S6) : Prop where
  ring : Ring s.xs (edgT s.ts s.ts.length)
  small : s.ts.length ≤ i
  w0 : 0 ≤ w
  w1 : w ≤ 900000000
  rise : RiseT s.ts
  now0 : 0 ≤ s.now
  nowL : s.ts.length ≠ 0 → s.now = (s.ts.getD (s.ts.length - 1) th0).a
  nowZ : s.ts.length = 0 → s.now = 0
  taken : ∀ j : Nat, lastI s.ts = j → s.t = (s.ts.getD j th0).i
  idle : s.wt = none → waitI s.ts = -1
  wait : ∀ a m, s.wt = some (a, m) → m.n = true ∧ ∃ j : Nat, waitI s.ts = j ∧ j < s.ts.length ∧ a = (s.ts.getD j th0).a ∧ m = (s.ts.getD j th0).m
theorem Plays.may {w : Int} {i : Nat} {s : S6} (h : Plays w i s) {c : Int} : mayP s.ts c ↔ s.now ≤ c := by
  have h0 := h.now0
  unfold mayP
  by_cases hz : s.ts.length = 0
  · have := h.nowZ hz
    exact ⟨fun q => by omega, fun q => ⟨by omega, fun x => (x hz).elim⟩⟩
  · have := h.nowL hz
    exact ⟨fun q => by have := q.2 hz; omega, fun q => ⟨by omega, fun _ => by omega⟩⟩
end Go.Proofs.Ytpidmcpnkfgcjaa.VC
