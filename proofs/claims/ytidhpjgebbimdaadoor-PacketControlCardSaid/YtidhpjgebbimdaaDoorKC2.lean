/- PacketControl: bytes.Trim of zeros. -/
import Derived.Test.YtidhpjgebbimdaaDoorKC1
namespace Go.Proofs.YtidhpjgebbimdaaDoor.VC
open Go Go.Proofs

def str0 : ByteArray := ⟨#[0]⟩
def zeros (xs : List Int) (o n : Nat) : Prop := ∀ i, i < n → xs.getD (o + i) 0 = 0
def liveTr : List Nat := [0, 1, 4]
abbrev stTr (o n : Nat) : List Value := [slo 0 o n 2, u8v 0, .slice none 0 0]
--CP pTrR (o n N : Nat) (xs : List Int) (on : List Value → Heap → Out) (out : Exit → List Value → Heap → Out) :: roundK Tryd.prog ((mkS []).on [(8, true), (17, true)]) noL Tryd.f18.ntmps 1 (loopOf Tryd.f18 0) liveTr (stTr o n) [rU N xs] on out
theorem pTrR (o n N : Nat) (xs : List Int) (on : List Value → Heap → Out) (out : Exit → List Value → Heap → Out)
    (w1 : -9223372036854775808 ≤ (↑n : Int) - (1 : Int) ∧ (↑n : Int) - (1 : Int) ≤ 9223372036854775807 := by omega)
    (h1 : (↑n : Int) > (0 : Int) := by first | omega | assumption | rfl)
    (h2 : (0 : Int) ≤ (↑n : Int) - (1 : Int) := by first | omega | assumption | rfl)
    (h3 : (↑n : Int) - (1 : Int) < (↑n : Int) := by first | omega | assumption | rfl)
    (h4 : o + ((↑n : Int) - (1 : Int)).toNat < N := by first | omega | assumption | rfl)
    (h5 : xs.getD (o + ((↑n : Int) - (1 : Int)).toNat) (0 : Int) = (0 : Int) := by first | omega | assumption | rfl)
    (h6 : (↑n : Int) - (1 : Int) ≤ (↑n : Int) := by first | omega | assumption | rfl) : roundK Tryd.prog ((mkS []).on [(8, true), (17, true)]) noL Tryd.f18.ntmps 1 (loopOf Tryd.f18 0) liveTr (stTr o n) [rU N xs] on out =
     (on [Value.slice (some (Addr.mk (0 : Nat) o none)) ((↑n : Int) - (1 : Int) - (0 : Int)).toNat (2 : Nat), Value.int IntKind.u8 (0 : Int), Value.slice none (0 : Nat) (0 : Nat)] [some (Blk.mk false (1 :
     Nat) [Seg.ints IntKind.u8 N xs])]) :=
  Eq.trans (b :=
     bif decide ((↑n : Int) > (0 : Int)) then bif decide ((0 : Int) ≤ IntKind.i64.wrap ((↑n : Int) - (1 : Int))) && decide (IntKind.i64.wrap ((↑n : Int) - (1 : Int)) < (↑n : Int)) then bif (o +
     (IntKind.i64.wrap ((↑n : Int) - (1 : Int))).toNat * (1 : Nat)).blt N then bif xs.getD (o + (IntKind.i64.wrap ((↑n : Int) - (1 : Int))).toNat * (1 : Nat)) (0 : Int) == (0 : Int) then bif decide ((0 :
     Int) ≤ IntKind.i64.wrap ((↑n : Int) - (1 : Int))) && decide (IntKind.i64.wrap ((↑n : Int) - (1 : Int)) ≤ (↑n : Int)) then on [Value.slice (some (Addr.mk (0 : Nat) o none)) (IntKind.i64.wrap ((↑n :
     Int) - (1 : Int)) - (0 : Int)).toNat (2 : Nat), Value.int IntKind.u8 (0 : Int), Value.slice none (0 : Nat) (0 : Nat)] [some (Blk.mk false (1 : Nat) [Seg.ints IntKind.u8 N xs])] else none else none
     else none else none else none) (by kernel_rfl) (by simp only [-eq_self, Nat.mul_one, swrap w1.1 w1.2]; exact (go_t (dec_t h1) (go_t (and_t (dec_t h2) (dec_t h3)) (go_t (blt_t h4) (go_t (eqb_t h5) (go_t (and_t (dec_t h2) (dec_t h6)) rfl))))))
--CFEND
--CP pTrRX (o N : Nat) (xs : List Int) (on : List Value → Heap → Out) (out : Exit → List Value → Heap → Out) :: roundK Tryd.prog ((mkS []).on [(8, false)]) noL Tryd.f18.ntmps 1 (loopOf Tryd.f18 0) liveTr (stTr o 0) [rU N xs] on out
theorem pTrRX (o N : Nat) (xs : List Int) (on : List Value → Heap → Out) (out : Exit → List Value → Heap → Out) : roundK Tryd.prog ((mkS []).on [(8, false)]) noL Tryd.f18.ntmps 1 (loopOf Tryd.f18 0) liveTr (stTr o 0) [rU N xs] on out =
     (out (Exit.exit (0 : Nat)) [Value.slice (some (Addr.mk (0 : Nat) o none)) (0 : Nat) (2 : Nat), Value.int IntKind.u8 (0 : Int), Value.slice none (0 : Nat) (0 : Nat)] [some (Blk.mk false (1 : Nat)
     [Seg.ints IntKind.u8 N xs])]) :=
  Eq.trans (by kernel_rfl) rfl
--CFEND
noncomputable def LTrRf : LF := fun vs h k => match vs, h with
  | [.slice (some ⟨0, o, none⟩) n 2, .int .u8 0, .slice none 0 0], [some ⟨false, 1, [.ints .u8 N xs]⟩] => bif chk (o + n ≤ N ∧ n ≤ 1000000 ∧ zeros xs o n) then k (.exit 0) (stTr o 0) [rU N xs] else none
  | _, _ => none
noncomputable def LTrR : LSpec := oneL 1 liveTr LTrRf
--CP pTrRF (o n N : Nat) (xs : List Int) :: fnK Tryd.prog (mkS []) LTrR Tryd.f18 [slo 0 o n 2, u8v 0] [rU N xs]
theorem pTrRF (o n N : Nat) (xs : List Int)
    (h1 : o + n ≤ N ∧ n ≤ (1000000 : Nat) ∧ zeros xs o n := by first | omega | assumption | rfl | ((repeat' with_reducible apply And.intro) <;> first | rfl | assumption | omega)) : fnK Tryd.prog (mkS []) LTrR Tryd.f18 [slo 0 o n 2, u8v 0] [rU N xs] =
     (some (Res.ret (Value.slice (some (Addr.mk (0 : Nat) o none)) (0 : Nat) (2 : Nat)) [some (Blk.mk false (1 : Nat) [Seg.ints IntKind.u8 N xs])])) :=
  Eq.trans (by kernel_rfl) (go_t (chk_t h1) rfl)
--CFEND
--CP pTrLX (o N : Nat) (xs : List Int) (on : List Value → Heap → Out) (out : Exit → List Value → Heap → Out) :: roundK Tryd.prog ((mkS []).on [(8, false)]) noL Tryd.f17.ntmps 1 (loopOf Tryd.f17 0) liveTr (stTr o 0) [rU N xs] on out
theorem pTrLX (o N : Nat) (xs : List Int) (on : List Value → Heap → Out) (out : Exit → List Value → Heap → Out) : roundK Tryd.prog ((mkS []).on [(8, false)]) noL Tryd.f17.ntmps 1 (loopOf Tryd.f17 0) liveTr (stTr o 0) [rU N xs] on out =
     (out (Exit.exit (0 : Nat)) [Value.slice (some (Addr.mk (0 : Nat) o none)) (0 : Nat) (2 : Nat), Value.int IntKind.u8 (0 : Int), Value.slice none (0 : Nat) (0 : Nat)] [some (Blk.mk false (1 : Nat)
     [Seg.ints IntKind.u8 N xs])]) :=
  Eq.trans (by kernel_rfl) rfl
--CFEND
def LTrLf : LF := fun vs h k => match vs, h with
  | [.slice (some ⟨0, o, none⟩) 0 2, .int .u8 0, .slice none 0 0], [some ⟨false, 1, [.ints .u8 N xs]⟩] => k (.exit 0) (stTr o 0) [rU N xs]
  | _, _ => none
def LTrL : LSpec := oneL 1 liveTr LTrLf
--CP pTrLF (o N : Nat) (xs : List Int) :: fnK Tryd.prog (mkS []) LTrL Tryd.f17 [slo 0 o 0 2, u8v 0] [rU N xs]
theorem pTrLF (o N : Nat) (xs : List Int) : fnK Tryd.prog (mkS []) LTrL Tryd.f17 [slo 0 o 0 2, u8v 0] [rU N xs] =
     (some (Res.ret (Value.slice none (0 : Nat) (0 : Nat)) [some (Blk.mk false (1 : Nat) [Seg.ints IntKind.u8 N xs])])) :=
  Eq.trans (by kernel_rfl) rfl
--CFEND
theorem loopTrR {o N : Nat} {xs : List Int} : ∀ (n : Nat), o + n ≤ N → n ≤ 1000000 → zeros xs o n →
    LoopT Tryd.prog Tryd.f18.ntmps 1 (loopOf Tryd.f18 0) (zipS liveTr (stTr o n)) [rU N xs] (.exit 0) (zipS liveTr (stTr o 0)) [rU N xs]
  | 0, _, _, _ => LoopT.last (by intro h; cases h) (CodeT.out (mk0.on _) noL_ok fun on out => pTrRX o N xs on out)
  | n + 1, h1, h2, hz => by
    refine LoopT.step (CodeT.on (live := liveTr) (vs1 := stTr o n) (h1 := [rU N xs]) (mk0.on [(8, true), (17, true)]) noL_ok fun on out => ?_) (loopTrR n (by omega) (by omega) fun i hi => hz i (by omega))
    have e : (((n + 1 : Nat) : Int) - 1).toNat = n := by omega
    refine (pTrR o (n + 1) N xs on out (h4 := by omega) (h5 := by rw [e]; exact hz n (by omega))).trans ?_
    rw [show (((n + 1 : Nat) : Int) - 1 - 0).toNat = n by omega]
theorem loopOKTrR : LoopOK Tryd.prog Tryd.f18.ntmps 1 (loopOf Tryd.f18 0) liveTr LTrRf := by
  refine LoopOK.of_T ?_
  intro vs h k out hk
  unfold LTrRf at hk
  split at hk
  · obtain ⟨hb, hk2⟩ := bif_t hk
    obtain ⟨h1, h2, h3⟩ := chk_iff.1 hb
    exact ⟨_, _, _, hk2, fun real => loopTrR _ h1 h2 h3⟩
  · cases hk
theorem loopsTrR : LoopsOK Tryd.prog LTrR Tryd.f18.ntmps 1 (bodyOf Tryd.f18) := loops_one rfl (by kernel_rfl) loopOKTrR
theorem loopOKTrL : LoopOK Tryd.prog Tryd.f17.ntmps 1 (loopOf Tryd.f17 0) liveTr LTrLf := by
  refine LoopOK.of_T ?_
  intro vs h k out hk
  unfold LTrLf at hk
  split at hk
  · exact ⟨_, _, _, hk, fun real => LoopT.last (by intro h; cases h) (CodeT.out (mk0.on _) noL_ok fun on out => pTrLX _ _ _ on out)⟩
  · cases hk
theorem loopsTrL : LoopsOK Tryd.prog LTrL Tryd.f17.ntmps 1 (bodyOf Tryd.f17) := loops_one rfl (by kernel_rfl) loopOKTrL
noncomputable def FTrR : FSpec := fun args h k => match args, h with
  | [.slice (some ⟨0, o, none⟩) n _, .int .u8 0], [some ⟨false, 1, [.ints .u8 N xs]⟩] => bif chk (o + n ≤ N ∧ n ≤ 1000000 ∧ zeros xs o n) then k (slo 0 o 0 2) [rU N xs] else none
  | _, _ => none
theorem okTrR : EntryOK Tryd.prog 18 FTrR := by
  refine EntryOK.of_paths_cap (fn := Tryd.f18) follows_ok Tryd.func18 (by kernel_rfl) (by kernel_rfl) ?_
  intro args h k out hF
  unfold FTrR at hF
  split at hF
  · obtain ⟨hb, hF2⟩ := bif_t hF
    exact ⟨_, _, hF2, fun _ => ⟨_, LTrR, _, .cap _ _ _ _ (.same _ .nil), mk0, loopsTrR, pTrRF _ _ _ _ (chk_iff.1 hb)⟩⟩
  · cases hF
def FTrL : FSpec := fun args h k => match args, h with
  | [.slice (some ⟨0, _, none⟩) 0 _, .int .u8 0], [some ⟨false, 1, [.ints .u8 N xs]⟩] => k (.slice none 0 0) [rU N xs]
  | _, _ => none
theorem okTrL : EntryOK Tryd.prog 17 FTrL := by
  refine EntryOK.of_paths_cap (fn := Tryd.f17) follows_ok Tryd.func17 (by kernel_rfl) (by kernel_rfl) ?_
  intro args h k out hF
  unfold FTrL at hF
  split at hF
  · exact ⟨_, _, hF, fun _ => ⟨_, LTrL, _, .cap _ _ _ _ (.same _ .nil), mk0, loopsTrL, pTrLF _ _ _⟩⟩
  · cases hF
noncomputable def STrm : Spec := mkS [(18, false, FTrR), (17, false, FTrL)]
--CP pTrm0 (o c N : Nat) (xs : List Int) :: fnK Tryd.prog (STrm.on []) noL Tryd.f15 [slo 0 o 0 c, .string ⟨#[0]⟩] [rU N xs]
theorem pTrm0 (o c N : Nat) (xs : List Int) : fnK Tryd.prog (STrm.on []) noL Tryd.f15 [slo 0 o 0 c, .string ⟨#[0]⟩] [rU N xs] =
     (some (Res.ret (Value.slice none (0 : Nat) (0 : Nat)) [some (Blk.mk false (1 : Nat) [Seg.ints IntKind.u8 N xs])])) :=
  Eq.trans (by kernel_rfl) rfl
--CFEND
--CP pTrm (o n c N : Nat) (xs : List Int) :: fnK Tryd.prog (STrm.on [(9, false)]) noL Tryd.f15 [slo 0 o n c, .string ⟨#[0]⟩] [rU N xs]
theorem pTrm (o n c N : Nat) (xs : List Int)
    (h1 : (↑n : Int) ≠ (0 : Int) := by first | omega | assumption | rfl)
    (h2 : o + n ≤ N ∧ n ≤ (1000000 : Nat) ∧ zeros xs o n := by first | omega | assumption | rfl | ((repeat' with_reducible apply And.intro) <;> first | rfl | assumption | omega)) : fnK Tryd.prog (STrm.on [(9, false)]) noL Tryd.f15 [slo 0 o n c, .string ⟨#[0]⟩] [rU N xs] =
     (some (Res.ret (Value.slice none (0 : Nat) (0 : Nat)) [some (Blk.mk false (1 : Nat) [Seg.ints IntKind.u8 N xs])])) :=
  Eq.trans (by kernel_rfl) (go_f (eqb_f h1) (go_t (chk_t h2) rfl))
--CFEND
noncomputable def FTrm : FSpec := fun args h k => match args, h with
  | [.slice (some ⟨0, o, none⟩) n _, .string s], [some ⟨false, 1, [.ints .u8 N xs]⟩] => bif chk (o + n ≤ N ∧ n ≤ 1000000 ∧ zeros xs o n ∧ s = str0) then k (.slice none 0 0) [rU N xs] else none
  | _, _ => none
theorem STrm_ok : SpecOK Tryd.prog STrm := mkS_cons okTrR (mkS_cons okTrL (mkS_nil _))
end Go.Proofs.YtidhpjgebbimdaaDoor.VC
