/- PairPlays: the step. -/
import Derived.Test.YtpidmcpnkfgcjaaT6
namespace Go.Proofs.Ytpidmcpnkfgcjaa.VC
open Go Go.Proofs

abbrev st6 (n i : Nat) (s : S6) : List Value := [.bool false, pt 1, (match s.wt with | none => pt 3 | some _ => pt 4), sl 0 n 2, w63 n, w63 i]
def hp6 (w : Int) (n : Nat) (vs : List FV) (s : S6) : Heap := match s.wt with
  | none => [opsB n vs, PBe 2 w s.now s.t (.pointer none), eB true s.xs, DBe 4 w s.ts.length s.cc, rowA true s.ts.length (flat s.ts)]
  | some (a, m) => [opsB n vs, PBe 2 w s.now s.t (pt 3), eB true s.xs, WB true a m, DBe 5 w s.ts.length s.cc, rowA true s.ts.length (flat s.ts)]
theorem S6e_ok {fe re wt wa : FSpec} (h1 : EntryOK Try.prog 28 fe) (h2 : EntryOK Try.prog 31 re) (h3 : EntryOK Try.prog 33 wt) (h4 : EntryOK Try.prog 34 wa) : SpecOK Try.prog (S6e fe re wt wa) := mkS_cons h1 (mkS_cons h2 (mkS_cons h3 (mkS_cons h4 (mkS_nil _))))
theorem S6m_ok {fe re wt wa : FSpec} (h1 : EntryOK Try.prog 29 fe) (h2 : EntryOK Try.prog 32 re) (h3 : EntryOK Try.prog 33 wt) (h4 : EntryOK Try.prog 34 wa) : SpecOK Try.prog (S6m fe re wt wa) := mkS_cons h1 (mkS_cons h2 (mkS_cons h3 (mkS_cons h4 (mkS_nil _))))
theorem S6c_ok {cp dc fe fm wt wa : FSpec} (h1 : EntryOK Try.prog 27 cp) (h2 : EntryOK Try.prog 30 dc) (h3 : EntryOK Try.prog 28 fe) (h4 : EntryOK Try.prog 29 fm) (h5 : EntryOK Try.prog 33 wt) (h6 : EntryOK Try.prog 34 wa) : SpecOK Try.prog (S6c cp dc fe fm wt wa) := mkS_cons h1 (mkS_cons h2 (mkS_cons h3 (mkS_cons h4 (mkS_cons h5 (mkS_cons h6 (mkS_nil _))))))
theorem Plays.lastR {w : Int} {i : Nat} {s : S6} (h : Plays w i s) {c : Int} (hc : s.now ≤ c) : s.xs.getD 8 0 = 0 ∨ 0 ≤ VC.lastR s.xs ∧ VC.lastR s.xs ≤ c := by
  have hn := h.ring.num
  cases hf : fdn pE s.ts s.ts.length with
  | none => rw [last_edge.1 hf] at hn; exact .inl hn
  | some j =>
    obtain ⟨hne, hla⟩ := last_edge.2 j hf
    have hpos : 0 < (edgT s.ts s.ts.length).length := List.length_pos_iff.2 hne
    have hle := may_le h.rise (h.may.2 hc) (fdn_some hf).1
    refine .inr ?_
    unfold VC.lastR
    rw [hn, show ((((edgT s.ts s.ts.length).length : Nat) : Int) - 1) % 8 = ((((edgT s.ts s.ts.length).length - 1) % 8 : Nat) : Int) by omega, Int.toNat_natCast, h.ring.kept _ (by omega) (by omega), hla]
    exact hle
theorem Plays.low {w : Int} {i : Nat} {s : S6} (h : Plays w i s) {c : Int} (hc : s.now ≤ c) : lowB s.xs c = false := by
  have h0 := h.now0
  refine low_of h.ring (by omega) fun hA => ?_
  rcases h.lastR hc with e | e
  · have hn := h.ring.num
    have hpos : 0 < (edgT s.ts s.ts.length).length := List.length_pos_iff.2 hA
    omega
  · exact e.2
end Go.Proofs.Ytpidmcpnkfgcjaa.VC
