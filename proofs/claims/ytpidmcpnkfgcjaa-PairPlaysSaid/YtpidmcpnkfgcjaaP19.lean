/- PairPlays: the law. -/
import Derived.Test.YtpidmcpnkfgcjaaP18
namespace Go.Proofs.Ytpidmcpnkfgcjaa.VC
open Go Go.Proofs

theorem step6 {w : Int} {n : Nat} {vs : List FV} (hn : n ≤ 60) (hk : KindsOK opK' n vs) {i : Nat} (hi : i < n) {s : S6} (h : Plays w i s) : Step6 w n vs i s := by
  cases c1 : (vs.getD (i * 9 + 1) (FV.b false)).asB with
  | true => exact step6c hn hk hi h c1
  | false =>
    cases c2 : (vs.getD (i * 9) (FV.b false)).asB with
    | true => exact step6e hn hk hi h c1 c2
    | false => exact step6m hn hk hi h c1 c2
abbrev end6 (n : Nat) (vs : List FV) : Heap := [opsB n vs, none, none, none, none, none]
theorem loop6 {w : Int} {n : Nat} {vs : List FV} (hn : n ≤ 60) (hk : KindsOK opK' n vs) : ∀ (r i : Nat) (s : S6), i + r = n → Plays w i s →
    ∃ s' : S6, LoopT Try.prog Try.f6.ntmps 1 (loopOf Try.f6 0) (zipS live6 (st6 n i s)) (hp6 w n vs s) (.exit 0) (zipS live6 (st6 n n s')) (end6 n vs) := by
  intro r
  induction r with
  | zero =>
    intro i s hi h
    obtain rfl : i = n := by omega
    refine ⟨s, LoopT.last (by intro h; cases h) ?_⟩
    obtain ⟨now, t, xs, wt, ts, cc⟩ := s
    cases wt with
    | none =>
      refine CodeT.weak (WeakS.refl _ _) (CodeT.out (mk0.on _) noL_ok fun on out => p6xN w now t i i cc xs vs ts on out) (WeakS.ext (fun id blk hb => ?_) (by simp))
      match id, hb with
      | 0, hb => exact hb
      | 1, hb => cases hb
      | 2, hb => cases hb
      | 3, hb => cases hb
      | 4, hb => cases hb
      | 5, hb => cases hb
    | some q =>
      obtain ⟨a, m⟩ := q
      refine CodeT.weak (WeakS.refl _ _) (CodeT.out (mk0.on _) noL_ok fun on out => p6xS w now a t m i i cc xs vs ts on out) (WeakS.ext (fun id blk hb => ?_) (by simp))
      match id, hb with
      | 0, hb => exact hb
      | 1, hb => cases hb
      | 2, hb => cases hb
      | 3, hb => cases hb
      | 4, hb => cases hb
      | 5, hb => cases hb
  | succ r ih =>
    intro i s hi h
    obtain ⟨s1, h1, c1⟩ := step6 hn hk (show i < n by omega) h
    obtain ⟨s2, c2⟩ := ih (i + 1) s1 (by omega) h1
    exact ⟨s2, LoopT.step c1 c2⟩
theorem WeakS.nilA {live : List Nat} {vs : List Value} {h : Heap} {es : Nat} {own : Bool} : WeakS (zipS live vs) h (zipS live vs) (h ++ [some ⟨own, es, [.any 0 []]⟩]) :=
  ⟨by simp, fun ι n base w a hs hr => ⟨hs, HR_empty hr (fun s h => by
    rcases List.mem_cons.1 h with rfl | h
    · exact ⟨rfl, fun x hx => by cases hx⟩
    · cases h) (fun i => by simp [cell?]), fun b hb => mods_empty hr hb⟩⟩
end Go.Proofs.Ytpidmcpnkfgcjaa.VC
