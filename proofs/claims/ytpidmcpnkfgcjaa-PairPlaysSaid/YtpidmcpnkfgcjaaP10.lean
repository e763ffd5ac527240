/- PairPlays: the edges that the document keeps. -/
import Derived.Test.YtpidmcpnkfgcjaaT2
namespace Go.Proofs.Ytpidmcpnkfgcjaa.VC
open Go Go.Proofs

theorem S56_ok : SpecOK Try.prog S56 := mkS_cons ok14a (mkS_nil _)
abbrev lgH (G : Lg) : Heap := [wL (slo 3 G.o G.q 1), oI G.N G.l]
theorem loop56 {w : Int} {cc : Nat} {ts : List Th} (hn : ts.length ≤ 60) (hR : RiseT ts) : ∀ r i, i + r = ts.length →
    LoopT Try.prog Try.f56.ntmps 2 (loopOf Try.f56 0) (zipS live56 [pt 0, pt 2, w63 i]) (dH false w ts cc ++ lgH (logT ts i)) (.exit 0) (zipS live56 [pt 0, pt 2, w63 ts.length]) (dH false w ts cc ++ lgH (logT ts ts.length)) := by
  intro r
  induction r with
  | zero =>
    intro i hi
    obtain rfl : i = ts.length := by omega
    exact LoopT.last (by intro h; cases h) (CodeT.out (S56_ok.on _) noL_ok fun on out => p56x w ts.length cc (logT ts ts.length).o (logT ts ts.length).q 1 (logT ts ts.length).N (logT ts ts.length).l (flat ts) on out)
  | succ r ih =>
    intro i hi
    have ih := ih (i + 1) (by omega)
    have hi : i < ts.length := by omega
    have k1 : ((flat ts).getD (i * 10 + 1) (FV.b false)).isB = true := by rw [fgE hi]; rfl
    have k0 : FV.isI .i64 ((flat ts).getD (i * 10) (FV.b false)) = true := by rw [fgA hi]; rfl
    have v1 : ((flat ts).getD (i * 10 + 1) (FV.b false)).asB = (ts.getD i th0).e := by rw [fgE hi]; rfl
    have v0 : ((flat ts).getD (i * 10) (FV.b false)).asI = (ts.getD i th0).a := by rw [fgA hi]; rfl
    have q := log_may hR hi
    refine LoopT.step ?_ ih
    have e : logT ts (i + 1) = bif (ts.getD i th0).e then ⟨pushR (logT ts i).xs (ts.getD i th0).a, offN (logT ts i).q, lenN (logT ts i).q, (logT ts i).q + 1, curL (logT ts i).o (logT ts i).q (logT ts i).l ++ [(ts.getD i th0).a]⟩ else logT ts i := rfl
    rw [e]
    cases he : (ts.getD i th0).e with
    | false =>
      rw [he] at v1
      exact CodeT.on (S56_ok.on _) noL_ok fun on out => p56n w ts.length cc i (logT ts i).o (logT ts i).q 1 (logT ts i).N (logT ts i).l (flat ts) on out
    | true =>
      rw [he] at v1
      rw [← v0] at q ⊢
      exact CodeT.on (S56_ok.on _) noL_ok fun on out => p56e w ts.length cc i (logT ts i).o (logT ts i).q 1 (logT ts i).N (logT ts i).l (flat ts) on out
noncomputable def L56f (ts : List Th) : LF := fun vs h k => match vs, h with
  | [.pointer (some ⟨0, 0, none⟩), .pointer (some ⟨2, 0, none⟩), .int .i64 0], [some ⟨false, 2, [.ints .i64 1 [w], .vals [.slice (some ⟨1, 0, none⟩) n cc]]⟩, some ⟨false, 10, [.any N vs]⟩, some ⟨true, 1, [.vals [.slice none 0 0]]⟩] =>
    bif chk (n = ts.length ∧ N = ts.length * 10 ∧ vs = flat ts ∧ n ≤ 60 ∧ RiseT ts) then
      k (.exit 0) [pt 0, pt 2, w63 ts.length] [DB false w ts.length cc, rowA false ts.length (flat ts), wL (slo 3 (logT ts ts.length).o (logT ts ts.length).q 1), oI (logT ts ts.length).N (logT ts ts.length).l] else none
  | _, _ => none
theorem loopOK56 (ts : List Th) : LoopOK Try.prog Try.f56.ntmps 2 (loopOf Try.f56 0) live56 (L56f ts) := by
  refine LoopOK.of_T ?_
  intro vs h k out hk
  unfold L56f at hk
  split at hk
  · rename_i w n cc N vs
    obtain ⟨hb, hk2⟩ := bif_t hk
    obtain ⟨rfl, rfl, rfl, h4, h5⟩ := chk_iff.1 hb
    refine ⟨_, _, _, hk2, fun _ => ?_⟩
    refine LoopT.weak ?_ (loop56 (w := w) (cc := cc) h4 h5 ts.length 0 (Nat.zero_add _))
    exact (WeakS.nilS (k := .i64) (es := 1) (own := true) (vs := [pt 0, pt 2, w63 0]) (by decide) (.same _ (.same _ (.same _ .nil)))).trans (WeakS.nilC (id := 2) rfl (.none 3 1 .nil))
  · cases hk
noncomputable def L56 (ts : List Th) : LSpec := oneL 3 live56 (L56f ts)
--CP pKep (w : Int) (cc : Nat) (ts : List Th) :: fnK Try.prog (mkS []) (L56 ts) Try.f56 [pt 0] (dH false w ts cc)
theorem pKep (w : Int) (cc : Nat) (ts : List Th)
    (h1 : ts.length = ts.length ∧ ts.length * (10 : Nat) = ts.length * (10 : Nat) ∧ flat ts = flat ts ∧ ts.length ≤ (60 : Nat) ∧ RiseT ts := by first | omega | assumption | rfl | ((repeat' with_reducible apply And.intro) <;> first | rfl | assumption | omega)) : fnK Try.prog (mkS []) (L56 ts) Try.f56 [pt 0] (dH false w ts cc) =
     (some (Res.ret (Value.pointer (some (Addr.mk (2 : Nat) (0 : Nat) none))) [some (Blk.mk false (2 : Nat) [Seg.ints IntKind.i64 (1 : Nat) [w], Seg.vals [Value.slice (some (Addr.mk (1 : Nat) (0 : Nat)
     none)) ts.length cc]]), some (Blk.mk false (10 : Nat) [Seg.any (ts.length * (10 : Nat)) (flat ts)]), some (Blk.mk true (1 : Nat) [Seg.vals [Value.slice (some (Addr.mk (3 : Nat) (logT ts ts.length).o
     none)) (logT ts ts.length).q (1 : Nat)]]), some (Blk.mk true (1 : Nat) [Seg.ints IntKind.i64 (logT ts ts.length).N (logT ts ts.length).l])])) :=
  Eq.trans (by kernel_rfl) (go_t (chk_t h1) rfl)
--CFEND
noncomputable def FKep (ts : List Th) : FSpec := fun args h k => match args, h with
  | [.pointer (some ⟨0, 0, none⟩)], [some ⟨false, 2, [.ints .i64 1 [w], .vals [.slice (some ⟨1, 0, none⟩) n cc]]⟩, some ⟨false, 10, [.any N vs]⟩] =>
    bif chk (n = ts.length ∧ N = ts.length * 10 ∧ vs = flat ts ∧ n ≤ 60 ∧ RiseT ts) then
      k (pt 2) [DB false w ts.length cc, rowA false ts.length (flat ts), wL (slo 3 (logT ts ts.length).o (logT ts ts.length).q 1), oI (logT ts ts.length).N (logT ts ts.length).l] else none
  | _, _ => none
theorem okKep (ts : List Th) : EntryOK Try.prog 56 (FKep ts) := by
  refine EntryOK.of_paths (fn := Try.f56) follows_ok Try.func56 (by kernel_rfl) (by kernel_rfl) ?_
  intro args h k out hF
  unfold FKep at hF
  split at hF
  · rename_i w n cc N vs
    obtain ⟨hb, hF2⟩ := bif_t hF
    obtain ⟨rfl, rfl, rfl, hn, hR⟩ := chk_iff.1 hb
    exact ⟨_, _, hF2, fun _ => ⟨_, L56 ts, mk0, loops_one rfl (by kernel_rfl) (loopOK56 ts), pKep w cc ts⟩⟩
  · cases hF
end Go.Proofs.Ytpidmcpnkfgcjaa.VC
