/- packet: Decode, Mode, and that what is written is read again. -/
import Derived.Test.YtpidmcpnkfgcjaaK5
namespace Go.Proofs.Ytpidmcpnkfgcjaa.VC
open Go Go.Proofs

theorem okNext : EntryOK Try.prog 51 FNext := by
  refine EntryOK.of_paths (fn := Try.f51) follows_ok Try.func51 (by kernel_rfl) (by kernel_rfl) ?_
  intro args h k out hF
  unfold FNext at hF
  split at hF
  · rename_i a o n N xs
    obtain ⟨hb, hF2⟩ := bif_t hF
    obtain ⟨h1, h2, h3, h4⟩ := chk_iff.1 hb
    refine ⟨_, _, hF2, fun real => ⟨_, noL, mkS_cons okGet (mkS_nil _), noL_ok, (pNext a o n N xs).trans ?_⟩⟩
    rw [show (a + 8 - (a + 8 - 8)).toNat = 8 by omega, show (a + 8 - 8).toNat = a.toNat by omega]
  · cases hF
/-- The packet of some bytes. -/
def decP (xs : List Int) : Pk := ⟨xs.getD 0 0 / 64, xs.getD 0 0 / 8 % 8, xs.getD 0 0 % 8, xs.getD 1 0, IntKind.i8.wrap (xs.getD 2 0), IntKind.i8.wrap (xs.getD 3 0), valB ((xs.drop 4).take 4), valB ((xs.drop 8).take 4),
  xs.getD 12 0, xs.getD 13 0, xs.getD 14 0, xs.getD 15 0, valB ((xs.drop 16).take 8), valB ((xs.drop 24).take 8), valB ((xs.drop 32).take 8), valB ((xs.drop 40).take 8)⟩
noncomputable def FDec : FSpec := fun args h k => match args, h with
  | [.slice (some ⟨0, 0, none⟩) n _], [some ⟨false, 1, [.ints .u8 N xs]⟩] =>
    bif chk (N = n ∧ 48 ≤ n ∧ n ≤ 1000000) then k (.tuple ⟨[.agg ⟨pkC (decP xs)⟩, w63 0]⟩) [rU N xs] else none
  | _, _ => none
theorem and7 {x : Int} (h0 : 0 ≤ x) (h1 : x ≤ 255) : bits .and .u8 x 7 = x % 8 := bits_low .u8 rfl 3 h0 (by show x < 256; omega) (by decide)
theorem byte_in {xs : List Int} (hx : ∀ x ∈ xs, 0 ≤ x ∧ x ≤ 255) (i : Nat) : 0 ≤ xs.getD i 0 ∧ xs.getD i 0 ≤ 255 := by
  rw [List.getD_eq_getElem?_getD]
  cases h : xs[i]? with
  | none => exact ⟨by decide, by decide⟩
  | some x => exact hx x (List.mem_of_getElem? h)
theorem okDec : EntryOK Try.prog 23 FDec := by
  refine EntryOK.of_paths_cap (fn := Try.f23) follows_ok Try.func23 (by kernel_rfl) (by kernel_rfl) ?_
  intro args h k out hF
  unfold FDec at hF
  split at hF
  · rename_i n c N xs
    obtain ⟨hb, hF2⟩ := bif_t hF
    obtain ⟨rfl, h1, h2⟩ := chk_iff.1 hb
    refine ⟨_, _, hF2, fun real => ⟨_, noL, _, .cap 0 0 N c .nil, (mkS_cons okGet (mkS_cons okNext (mkS_nil _))).on _, noL_ok, (pDec N xs).trans ?_⟩⟩
    have hs := real.segs (i := 0) rfl _ (List.mem_cons_self ..)
    have hl : xs.length = N := hs.1
    have hx : ∀ x ∈ xs, 0 ≤ x ∧ x ≤ 255 := hs.2
    have hv : ∀ o, o + 4 ≤ N → IntKind.u32.wrap (valB ((xs.drop o).take 4)) = valB ((xs.drop o).take 4) := fun o ho => by
      have := valB_lt 4 ((xs.drop o).take 4) (by rw [List.length_take, List.length_drop]; omega) fun x hx2 => hx x (List.mem_of_mem_drop (List.mem_of_mem_take hx2))
      rw [wU32]
      exact Int.emod_eq_of_lt this.1 this.2
    have b0 := byte_in hx 0
    have e8 : (xs.getD 0 0).fdiv 8 = xs.getD 0 0 / 8 := Int.fdiv_eq_ediv_of_nonneg _ (by decide)
    have e64 : (xs.getD 0 0).fdiv 64 = xs.getD 0 0 / 64 := Int.fdiv_eq_ediv_of_nonneg _ (by decide)
    rw [e8, e64, and7 (by omega) (by omega), and7 (by omega) (by omega), show ((8 : Int) - 4).toNat = 4 from rfl, show ((12 : Int) - 8).toNat = 4 from rfl, hv 4 (by omega), hv 8 (by omega)]
    rfl
  · cases hF
noncomputable def FMode : FSpec := fun args h k => match args, h with
  | [.slice (some ⟨0, 0, none⟩) n _], [some ⟨false, 1, [.ints .u8 N xs]⟩] =>
    bif chk (N = n ∧ 1 ≤ n) then k (.tuple ⟨[u8v (xs.getD 0 0 % 8), w63 0]⟩) [rU N xs] else none
  | _, _ => none
theorem okMode : EntryOK Try.prog 24 FMode := by
  refine EntryOK.of_paths_cap (fn := Try.f24) follows_ok Try.func24 (by kernel_rfl) (by kernel_rfl) ?_
  intro args h k out hF
  unfold FMode at hF
  split at hF
  · rename_i n c N xs
    obtain ⟨hb, hF2⟩ := bif_t hF
    obtain ⟨rfl, h1⟩ := chk_iff.1 hb
    refine ⟨_, _, hF2, fun real => ⟨_, noL, _, .cap 0 0 N c .nil, mk0.on _, noL_ok, (pMode N xs).trans ?_⟩⟩
    have hs := real.segs (i := 0) rfl _ (List.mem_cons_self ..)
    have b0 := byte_in hs.2 0
    rw [and7 b0.1 b0.2]
  · cases hF
theorem decP_pkL {p : Pk} (ok : PkOK p) (h2 : p.v ≤ 7) (h3 : p.m ≤ 7) (more : List Int) : decP (pkL p ++ more) = p := by
  have q1 := ok.l; have q2 := ok.v; have q3 := ok.m; have q4 := ok.po; have q5 := ok.pr; have q6 := ok.de; have q7 := ok.di
  have q8 := ok.a; have q9 := ok.b; have q10 := ok.c; have q11 := ok.d
  have e4 : ∀ x : Int, 0 ≤ x → x ≤ 4294967295 → valB (be x 4) = x := fun x a b => by rw [valB_be 4 x a]; exact Int.emod_eq_of_lt a (by show x < 4294967296; omega)
  have e8 : ∀ x : Int, 0 ≤ x → x ≤ 18446744073709551615 → valB (be x 8) = x := fun x a b => by rw [valB_be 8 x a]; exact Int.emod_eq_of_lt a (by show x < 18446744073709551616; omega)
  have t4 : ((pkL p ++ more).drop 4).take 4 = be p.de 4 := rfl
  have t8 : ((pkL p ++ more).drop 8).take 4 = be p.di 4 := rfl
  have t16 : ((pkL p ++ more).drop 16).take 8 = be p.a 8 := rfl
  have t24 : ((pkL p ++ more).drop 24).take 8 = be p.b 8 := rfl
  have t32 : ((pkL p ++ more).drop 32).take 8 = be p.c 8 := rfl
  have t40 : ((pkL p ++ more).drop 40).take 8 = be p.d 8 := rfl
  have g0 : (pkL p ++ more).getD 0 0 = p.l * 64 + p.v * 8 + p.m := rfl
  have g2 : (pkL p ++ more).getD 2 0 = p.po % 256 := rfl
  have g3 : (pkL p ++ more).getD 3 0 = p.pr % 256 := rfl
  unfold decP
  rw [t4, t8, t16, t24, t32, t40, g0, g2, g3, e4 _ q6.1 q6.2, e4 _ q7.1 q7.2, e8 _ q8.1 q8.2, e8 _ q9.1 q9.2, e8 _ q10.1 q10.2, e8 _ q11.1 q11.2, wI8, wI8,
    show (p.l * 64 + p.v * 8 + p.m) / 64 = p.l by omega, show (p.l * 64 + p.v * 8 + p.m) / 8 % 8 = p.v by omega, show (p.l * 64 + p.v * 8 + p.m) % 8 = p.m by omega,
    show (p.po % 256 + 128) % 256 - 128 = p.po by omega, show (p.pr % 256 + 128) % 256 - 128 = p.pr by omega]
  rfl
theorem pkL_len (p : Pk) : (pkL p).length = 48 := rfl
def FBit : FSpec := fun args h k => match args, h with
  | [.bool true, .int .u8 n], [] => k (u8v n) []
  | [.bool false, .int .u8 _], [] => k (u8v 0) []
  | _, _ => none
--CP pBit (n : Int) :: fnK Try.prog (mkS []) noL Try.f60 [.bool true, u8v n] []
theorem pBit (n : Int) : fnK Try.prog (mkS []) noL Try.f60 [.bool true, u8v n] [] =
     (some (Res.ret (Value.int IntKind.u8 n) [])) :=
  Eq.trans (by kernel_rfl) rfl
--CFEND
--CP pBit0 (n : Int) :: fnK Try.prog (mkS []) noL Try.f60 [.bool false, u8v n] []
theorem pBit0 (n : Int) : fnK Try.prog (mkS []) noL Try.f60 [.bool false, u8v n] [] =
     (some (Res.ret (Value.int IntKind.u8 (0 : Int)) [])) :=
  Eq.trans (by kernel_rfl) rfl
--CFEND
theorem okBit : EntryOK Try.prog 60 FBit := by
  refine EntryOK.of_paths (fn := Try.f60) follows_ok Try.func60 (by kernel_rfl) (by kernel_rfl) ?_
  intro args h k out hF
  unfold FBit at hF
  split at hF
  · exact ⟨_, _, hF, fun _ => ⟨_, noL, mk0, noL_ok, pBit _⟩⟩
  · exact ⟨_, _, hF, fun _ => ⟨_, noL, mk0, noL_ok, pBit0 _⟩⟩
  · cases hF
def FFill : FSpec := fun args h k => match args, h with
  | [.int .i64 0], [] => k (w63 0) []
  | _, _ => none
--CP pFill . :: fnK Try.prog (mkS []) noL Try.f61 [w63 0] []
theorem pFill  : fnK Try.prog (mkS []) noL Try.f61 [w63 0] [] =
     (some (Res.ret (Value.int IntKind.i64 (0 : Int)) [])) :=
  Eq.trans (by kernel_rfl) rfl
--CFEND
theorem okFill : EntryOK Try.prog 61 FFill := by
  refine EntryOK.of_paths (fn := Try.f61) follows_ok Try.func61 (by kernel_rfl) (by kernel_rfl) ?_
  intro args h k out hF
  unfold FFill at hF
  split at hF
  · exact ⟨_, _, hF, fun _ => ⟨_, noL, mk0, noL_ok, pFill⟩⟩
  · cases hF
def liveCtl : List Nat := [4, 52, 53, 1]
abbrev u16v (x : Int) : Value := .int .u16 x
abbrev ctlV : Value := .agg #[u8v 4, u8v 2, .bool true, .bool false, .bool false, u16v 0, u16v 0, u16v 0, u16v 0, .slice none 0 0]
abbrev ctlB : Option Blk := some ⟨true, 10, [.ints .u8 2 [4, 2], .vals [.bool true, .bool false, .bool false], .ints .u16 4 [0, 0, 0, 0], .vals [.slice none 0 0]]⟩
noncomputable def SCtl : Spec := mkS [(47, true, FPut), (60, false, FBit), (61, false, FFill)]
--CP pCtlL (k : Exit → List Value → Heap → Out) :: loopN Try.prog SCtl noL Try.f46.ntmps 0 (loopOf Try.f46 0) liveCtl 6 [sl 0 2 0, .agg #[u16v 0, u16v 0, u16v 0, u16v 0, u16v 0], w63 0, pt 1] [oU 2 [38, 130], ctlB] k
theorem pCtlL (k : Exit → List Value → Heap → Out)
    (h1 : (1 : Int) ≤ (2 : Int) ∧ (2 : Int) ≤ (8 : Int) ∧ (2 : Nat) = (2 : Nat) ∧ (2 : Nat) ≤ (900000 : Nat) := by first | omega | assumption | rfl)
    (h2 : (1 : Int) ≤ (2 : Int) ∧ (2 : Int) ≤ (8 : Int) ∧ (4 : Nat) = (4 : Nat) ∧ (4 : Nat) ≤ (900000 : Nat) := by first | omega | assumption | rfl)
    (h3 : (1 : Int) ≤ (2 : Int) ∧ (2 : Int) ≤ (8 : Int) ∧ (6 : Nat) = (6 : Nat) ∧ (6 : Nat) ≤ (900000 : Nat) := by first | omega | assumption | rfl)
    (h4 : (1 : Int) ≤ (2 : Int) ∧ (2 : Int) ≤ (8 : Int) ∧ (8 : Nat) = (8 : Nat) ∧ (8 : Nat) ≤ (900000 : Nat) := by first | omega | assumption | rfl)
    (h5 : (1 : Int) ≤ (2 : Int) ∧ (2 : Int) ≤ (8 : Int) ∧ (10 : Nat) = (10 : Nat) ∧ (10 : Nat) ≤ (900000 : Nat) := by first | omega | assumption | rfl) : loopN Try.prog SCtl noL Try.f46.ntmps 0 (loopOf Try.f46 0) liveCtl 6 [sl 0 2 0, .agg #[u16v 0, u16v 0, u16v 0, u16v 0, u16v 0], w63 0, pt 1] [oU 2 [38, 130], ctlB] k =
     (k (Exit.exit (0 : Nat)) [Value.slice (some (Addr.mk (0 : Nat) (0 : Nat) none)) (12 : Nat) (1 : Nat), Value.agg #[Value.int IntKind.u16 (0 : Int), Value.int IntKind.u16 (0 : Int), Value.int
     IntKind.u16 (0 : Int), Value.int IntKind.u16 (0 : Int), Value.int IntKind.u16 (0 : Int)], Value.int IntKind.i64 (5 : Int), Value.pointer (some (Addr.mk (1 : Nat) (0 : Nat) none))] [some (Blk.mk true
     (1 : Nat) [Seg.ints IntKind.u8 (12 : Nat) ([(38 : Int), (130 : Int)] ++ be (0 : Int) (2 : Nat) ++ be (0 : Int) (2 : Nat) ++ be (0 : Int) (2 : Nat) ++ be (0 : Int) (2 : Nat) ++ be (0 : Int) (2 :
     Nat))]), some (Blk.mk true (10 : Nat) [Seg.ints IntKind.u8 (2 : Nat) [(4 : Int), (2 : Int)], Seg.vals [Value.bool true, Value.bool false, Value.bool false], Seg.ints IntKind.u16 (4 : Nat) [(0 : Int),
     (0 : Int), (0 : Int), (0 : Int)], Seg.vals [Value.slice none (0 : Nat) (0 : Nat)]])]) :=
  Eq.trans (by kernel_rfl) (go_t (chk_t h1) (go_t (chk_t h2) (go_t (chk_t h3) (go_t (chk_t h4) (go_t (chk_t h5) rfl)))))
--CFEND
end Go.Proofs.Ytpidmcpnkfgcjaa.VC
