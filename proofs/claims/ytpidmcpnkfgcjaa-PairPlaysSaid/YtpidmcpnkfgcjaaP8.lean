/- PairPlays: what the document's parts answer. -/
import Derived.Test.YtpidmcpnkfgcjaaT1
namespace Go.Proofs.Ytpidmcpnkfgcjaa.VC
open Go Go.Proofs

section
variable {ts : List Th} {i : Nat}
theorem fgA (h : i < ts.length) : (flat ts).getD (i * 10) (.b false) = .i .i64 (ts.getD i th0).a := flat_get (j := 0) h (by decide)
theorem fgE (h : i < ts.length) : (flat ts).getD (i * 10 + 1) (.b false) = .b (ts.getD i th0).e := flat_get h (by decide)
theorem fgK (h : i < ts.length) : (flat ts).getD (i * 10 + 2) (.b false) = .i .u8 (ts.getD i th0).m.kd := flat_get h (by decide)
theorem fgU (h : i < ts.length) : (flat ts).getD (i * 10 + 3) (.b false) = .b (ts.getD i th0).m.u := flat_get h (by decide)
theorem fgS (h : i < ts.length) : (flat ts).getD (i * 10 + 4) (.b false) = .i .i64 (ts.getD i th0).m.s := flat_get h (by decide)
theorem fgL (h : i < ts.length) : (flat ts).getD (i * 10 + 5) (.b false) = .b (ts.getD i th0).m.l := flat_get h (by decide)
theorem fgC (h : i < ts.length) : (flat ts).getD (i * 10 + 6) (.b false) = .i .i64 (ts.getD i th0).m.c := flat_get h (by decide)
theorem fgN (h : i < ts.length) : (flat ts).getD (i * 10 + 7) (.b false) = .b (ts.getD i th0).m.n := flat_get h (by decide)
theorem fgI (h : i < ts.length) : (flat ts).getD (i * 10 + 8) (.b false) = .b (ts.getD i th0).i := flat_get h (by decide)
theorem fgG (h : i < ts.length) : (flat ts).getD (i * 10 + 9) (.b false) = .b (ts.getD i th0).g := flat_get h (by decide)
end
/-- May a thing come? -/
def mayP (ts : List Th) (c : Int) : Prop := 0 ≤ c ∧ (ts.length ≠ 0 → (ts.getD (ts.length - 1) th0).a ≤ c)
abbrev dH (own : Bool) (w : Int) (ts : List Th) (cc : Nat) : Heap := [DB own w ts.length cc, rowA own ts.length (flat ts)]
noncomputable def FMay (P : List Th → Int → Prop) (r : Bool) (ts : List Th) : FSpec := fun args h k => match args, h with
  | [.pointer (some ⟨0, 0, none⟩), .int .i64 c], [some ⟨false, 2, [.ints .i64 1 [w], .vals [.slice (some ⟨1, 0, none⟩) n cc]]⟩, some ⟨false, 10, [.any N vs]⟩] =>
    bif chk (n = ts.length ∧ N = ts.length * 10 ∧ vs = flat ts ∧ n ≤ 60 ∧ P ts c) then k (.bool r) (dH false w ts cc) else none
  | _, _ => none
theorem may_run {ts : List Th} {c w : Int} {cc : Nat} (hn : ts.length ≤ 60) : ∃ S, SpecOK Try.prog S ∧ fnK Try.prog S noL Try.f53 [pt 0, w63 c] (dH false w ts cc) = some (.ret (.bool (decide (0 ≤ c) && (decide (ts.length = 0) || decide ((ts.getD (ts.length - 1) th0).a ≤ c)))) (dH false w ts cc)) := by
  by_cases h0 : 0 ≤ c
  · by_cases h1 : ts.length = 0
    · refine ⟨_, mk0.on _, (pMayE c w ts.length cc (flat ts)).trans ?_⟩
      rw [dec_t h0, dec_t h1]; rfl
    · have hi : ts.length - 1 < ts.length := by omega
      have e : ((ts.length : Int) - 1).toNat = ts.length - 1 := by omega
      have g := fgA hi
      rw [← e] at g
      have g1 : FV.isI .i64 ((flat ts).getD (((ts.length : Int) - 1).toNat * 10) (FV.b false)) = true := by rw [g]; rfl
      refine ⟨_, mk0.on _, (pMayL c w ts.length cc (flat ts)).trans ?_⟩
      rw [dec_t h0, dec_f h1, g, e]; rfl
  · refine ⟨_, mk0.on _, (pMayN c w ts.length cc (flat ts)).trans ?_⟩
    rw [dec_f h0]; rfl
theorem okMayT (ts : List Th) : EntryOK Try.prog 53 (FMay mayP true ts) := by
  refine EntryOK.of_paths (fn := Try.f53) follows_ok Try.func53 (by kernel_rfl) (by kernel_rfl) ?_
  intro args h k out hF
  unfold FMay at hF
  split at hF
  · rename_i c w n cc N vs
    obtain ⟨hb, hF2⟩ := bif_t hF
    obtain ⟨rfl, rfl, rfl, hn, h0, h1⟩ := chk_iff.1 hb
    refine ⟨_, _, hF2, fun _ => ?_⟩
    obtain ⟨S, hS, e⟩ := may_run (c := c) (w := w) (cc := cc) hn
    refine ⟨S, noL, hS, noL_ok, e.trans ?_⟩
    rw [dec_t h0]
    by_cases hz : ts.length = 0
    · rw [dec_t hz]; rfl
    · rw [dec_f hz, dec_t (h1 hz)]; rfl
  · cases hF
theorem okMayF (ts : List Th) : EntryOK Try.prog 53 (FMay (fun ts c => ¬ mayP ts c) false ts) := by
  refine EntryOK.of_paths (fn := Try.f53) follows_ok Try.func53 (by kernel_rfl) (by kernel_rfl) ?_
  intro args h k out hF
  unfold FMay at hF
  split at hF
  · rename_i c w n cc N vs
    obtain ⟨hb, hF2⟩ := bif_t hF
    obtain ⟨rfl, rfl, rfl, hn, h0⟩ := chk_iff.1 hb
    refine ⟨_, _, hF2, fun _ => ?_⟩
    obtain ⟨S, hS, e⟩ := may_run (c := c) (w := w) (cc := cc) hn
    refine ⟨S, noL, hS, noL_ok, e.trans ?_⟩
    unfold mayP at h0
    by_cases hz : 0 ≤ c
    · rw [dec_t hz]
      by_cases hy : ts.length = 0
      · exact (h0 ⟨hz, fun h => (h hy).elim⟩).elim
      · rw [dec_f hy, dec_f (fun h => h0 ⟨hz, fun _ => h⟩)]; rfl
    · rw [dec_f hz]; rfl
  · cases hF
/-- One more. -/
noncomputable def FAddD (ts : List Th) : FSpec := fun args h k => match args, h with
  | [.pointer (some ⟨0, 0, none⟩), .agg ⟨[.int .i64 a, .bool e, .int .u8 kd, .bool u, .int .i64 s, .bool l, .int .i64 c, .bool n', .bool i, .bool g]⟩], [some ⟨true, 2, [.ints .i64 1 [w], .vals [.slice (some ⟨1, 0, none⟩) n _]]⟩, some ⟨true, 10, [.any N vs]⟩] =>
    bif chk (n = ts.length ∧ N = ts.length * 10 ∧ vs = flat ts ∧ n ≤ 60) then
      k (.tuple ⟨[]⟩) [some ⟨true, 2, [.ints .i64 1 [w], .vals [.slice (some ⟨2, 0, none⟩) (ts.length + 1) 1]]⟩, rowA true ts.length (flat ts), rowA true (ts.length + 1) (flat (ts ++ [⟨a, e, ⟨kd, u, s, l, c, n'⟩, i, g⟩]))] else none
  | _, _ => none
theorem okAddD (ts : List Th) : EntryOK Try.prog 54 (FAddD ts) := by
  refine EntryOK.of_paths (fn := Try.f54) follows_ok Try.func54 (by kernel_rfl) (by kernel_rfl) ?_
  intro args h k out hF
  unfold FAddD at hF
  split at hF
  · rename_i a e kd u s l c n' i g w n cc N vs
    obtain ⟨hb, hF2⟩ := bif_t hF
    obtain ⟨rfl, rfl, rfl, hn⟩ := chk_iff.1 hb
    refine ⟨_, _, hF2, fun _ => ?_⟩
    refine ⟨_, noL, SpecOK.calm mk0 _, noL_ok, (pAdd w ts.length cc (flat ts) ⟨a, e, ⟨kd, u, s, l, c, n'⟩, i, g⟩ (h6 := rfl)).trans ?_⟩
    rw [flat_snoc]
    have t : List.take ((0 + ts.length) * 10) (List.drop 0 (List.take (ts.length * 10) (List.drop 0 (flat ts)))) = flat ts := by
      rw [List.drop_zero, List.drop_zero, Nat.zero_add, List.take_take, Nat.min_self, ← flat_len, List.take_length]
    rw [t, show ts.length * 10 + 10 = (ts.length + 1) * 10 by omega]
    rfl
  · cases hF
/-- A copy. -/
noncomputable def FDCpy (ts : List Th) : FSpec := fun args h k => match args, h with
  | [.pointer (some ⟨0, 0, none⟩)], [some ⟨false, 2, [.ints .i64 1 [w], .vals [.slice (some ⟨1, 0, none⟩) n cc]]⟩, some ⟨false, 10, [.any N vs]⟩] =>
    bif chk (n = ts.length ∧ N = ts.length * 10 ∧ vs = flat ts ∧ n ≤ 60) then
      k (pt 2) [DB false w ts.length cc, rowA false ts.length (flat ts), some ⟨true, 2, [.ints .i64 1 [w], .vals [.slice (some ⟨3, 0, none⟩) ts.length 1]]⟩, rowA true ts.length (flat ts)] else none
  | _, _ => none
theorem okDCpy (ts : List Th) : EntryOK Try.prog 30 (FDCpy ts) := by
  refine EntryOK.of_paths (fn := Try.f30) follows_ok Try.func30 (by kernel_rfl) (by kernel_rfl) ?_
  intro args h k out hF
  unfold FDCpy at hF
  split at hF
  · rename_i w n cc N vs
    obtain ⟨hb, hF2⟩ := bif_t hF
    obtain ⟨rfl, rfl, rfl, hn⟩ := chk_iff.1 hb
    refine ⟨_, _, hF2, fun _ => ?_⟩
    refine ⟨_, noL, mk0, noL_ok, (pDCpy w ts.length cc (flat ts)).trans ?_⟩
    rw [show List.take (ts.length * 10) (flat ts) = flat ts by rw [← flat_len, List.take_length]]
  · cases hF
/-- Down to what waits. -/
theorem loop34 {w : Int} {cc : Nat} {ts : List Th} (hn : ts.length ≤ 60) : ∀ i, i ≤ ts.length → match fdn pW ts i with
    | none => LoopT Try.prog Try.f34.ntmps 2 (loopOf Try.f34 0) (zipS live34 [w63 0, pt 0, w63 ((i : Int) - 1)]) (dH false w ts cc) (.exit 0) (zipS live34 [w63 0, pt 0, w63 (-1)]) (dH false w ts cc)
    | some j => LoopT Try.prog Try.f34.ntmps 2 (loopOf Try.f34 0) (zipS live34 [w63 0, pt 0, w63 ((i : Int) - 1)]) (dH false w ts cc) .ret (zipS live34 [w63 (bif (ts.getD j th0).g then -1 else (j : Int)), pt 0, w63 j]) (dH false w ts cc) := by
  intro i
  induction i with
  | zero =>
    intro _
    exact LoopT.last (by intro h; cases h) (CodeT.out (mk0.on _) noL_ok fun on out => p34x w ts.length cc (flat ts) on out)
  | succ i ih =>
    intro hi
    have ih := ih (by omega)
    have hi : i < ts.length := by omega
    have k1 : ((flat ts).getD (i * 10 + 1) (FV.b false)).isB = true := by rw [fgE hi]; rfl
    have k2 : ((flat ts).getD (i * 10 + 7) (FV.b false)).isB = true := by rw [fgN hi]; rfl
    have k3 : ((flat ts).getD (i * 10 + 9) (FV.b false)).isB = true := by rw [fgG hi]; rfl
    have v1 : ((flat ts).getD (i * 10 + 1) (FV.b false)).asB = (ts.getD i th0).e := by rw [fgE hi]; rfl
    have v2 : ((flat ts).getD (i * 10 + 7) (FV.b false)).asB = (ts.getD i th0).m.n := by rw [fgN hi]; rfl
    have v3 : ((flat ts).getD (i * 10 + 9) (FV.b false)).asB = (ts.getD i th0).g := by rw [fgG hi]; rfl
    rw [show ((i + 1 : Nat) : Int) - 1 = (i : Int) by omega]
    show match (bif pW (ts.getD i th0) then some i else fdn pW ts i) with
      | none => _
      | some j => _
    unfold pW
    cases he : (ts.getD i th0).e with
    | true =>
      rw [he] at v1
      have c1 : CodeT Try.prog Try.f34.ntmps 2 (loopOf Try.f34 0) (zipS live34 [w63 0, pt 0, w63 (i : Int)]) (dH false w ts cc) .normal (zipS live34 [w63 0, pt 0, w63 ((i : Int) - 1)]) (dH false w ts cc) :=
        CodeT.on (mk0.on _) noL_ok fun on out => p34e w ts.length cc i (flat ts) on out
      simp only [Bool.not_true, Bool.false_and, cond_false]
      cases hf : fdn pW ts i with
      | none => rw [hf] at ih; exact LoopT.step c1 ih
      | some j => rw [hf] at ih; exact LoopT.step c1 ih
    | false =>
      rw [he] at v1
      cases hm : (ts.getD i th0).m.n with
      | false =>
        rw [hm] at v2
        have c1 : CodeT Try.prog Try.f34.ntmps 2 (loopOf Try.f34 0) (zipS live34 [w63 0, pt 0, w63 (i : Int)]) (dH false w ts cc) .normal (zipS live34 [w63 0, pt 0, w63 ((i : Int) - 1)]) (dH false w ts cc) :=
          CodeT.on (mk0.on _) noL_ok fun on out => p34n w ts.length cc i (flat ts) on out
        simp only [Bool.not_false, Bool.and_false, cond_false]
        cases hf : fdn pW ts i with
        | none => rw [hf] at ih; exact LoopT.step c1 ih
        | some j => rw [hf] at ih; exact LoopT.step c1 ih
      | true =>
        rw [hm] at v2
        simp only [Bool.not_false, Bool.and_true, cond_true]
        cases hg : (ts.getD i th0).g with
        | true =>
          rw [hg] at v3
          exact LoopT.last (by intro h; cases h) (CodeT.out (mk0.on _) noL_ok fun on out => p34g w ts.length cc i (flat ts) on out)
        | false =>
          rw [hg] at v3
          exact LoopT.last (by intro h; cases h) (CodeT.out (mk0.on _) noL_ok fun on out => p34f w ts.length cc i (flat ts) on out)
/-- Down to the last edge. -/
theorem loop55 {w : Int} {cc : Nat} {ts : List Th} (hn : ts.length ≤ 60) : ∀ i, i ≤ ts.length → match fdn pE ts i with
    | none => LoopT Try.prog Try.f55.ntmps 2 (loopOf Try.f55 0) (zipS live55 [w63 0, pt 0, w63 ((i : Int) - 1)]) (dH false w ts cc) (.exit 0) (zipS live55 [w63 0, pt 0, w63 (-1)]) (dH false w ts cc)
    | some j => LoopT Try.prog Try.f55.ntmps 2 (loopOf Try.f55 0) (zipS live55 [w63 0, pt 0, w63 ((i : Int) - 1)]) (dH false w ts cc) .ret (zipS live55 [w63 j, pt 0, w63 j]) (dH false w ts cc) := by
  intro i
  induction i with
  | zero =>
    intro _
    exact LoopT.last (by intro h; cases h) (CodeT.out (mk0.on _) noL_ok fun on out => p55x w ts.length cc (flat ts) on out)
  | succ i ih =>
    intro hi
    have ih := ih (by omega)
    have hi : i < ts.length := by omega
    have k1 : ((flat ts).getD (i * 10 + 1) (FV.b false)).isB = true := by rw [fgE hi]; rfl
    have v1 : ((flat ts).getD (i * 10 + 1) (FV.b false)).asB = (ts.getD i th0).e := by rw [fgE hi]; rfl
    rw [show ((i + 1 : Nat) : Int) - 1 = (i : Int) by omega]
    show match (bif pE (ts.getD i th0) then some i else fdn pE ts i) with
      | none => _
      | some j => _
    unfold pE
    cases he : (ts.getD i th0).e with
    | false =>
      rw [he] at v1
      have c1 : CodeT Try.prog Try.f55.ntmps 2 (loopOf Try.f55 0) (zipS live55 [w63 0, pt 0, w63 (i : Int)]) (dH false w ts cc) .normal (zipS live55 [w63 0, pt 0, w63 ((i : Int) - 1)]) (dH false w ts cc) :=
        CodeT.on (mk0.on _) noL_ok fun on out => p55n w ts.length cc i (flat ts) on out
      simp only [cond_false]
      cases hf : fdn pE ts i with
      | none => rw [hf] at ih; exact LoopT.step c1 ih
      | some j => rw [hf] at ih; exact LoopT.step c1 ih
    | true =>
      rw [he] at v1
      simp only [cond_true]
      exact LoopT.last (by intro h; cases h) (CodeT.out (mk0.on _) noL_ok fun on out => p55f w ts.length cc i (flat ts) on out)
end Go.Proofs.Ytpidmcpnkfgcjaa.VC
