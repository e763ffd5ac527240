/- PacketBytes: known, and the law. -/
import Derived.Test.YtpidmcpnkfgcjaaK6
namespace Go.Proofs.Ytpidmcpnkfgcjaa.VC
open Go Go.Proofs

noncomputable def LCtlf : LF := fun vs h k => match vs, h with
  | [.slice (some ⟨0, 0, none⟩) 2 0, .agg ⟨[.int .u16 0, .int .u16 0, .int .u16 0, .int .u16 0, .int .u16 0]⟩, .int .i64 0, .pointer (some ⟨1, 0, none⟩)],
    [some ⟨true, 1, [.ints .u8 2 [38, 130]]⟩, some ⟨true, 10, [.ints .u8 2 [4, 2], .vals [.bool true, .bool false, .bool false], .ints .u16 4 [0, 0, 0, 0], .vals [.slice none 0 0]]⟩] =>
    k (.exit 0) [sl 0 12 1, .agg #[u16v 0, u16v 0, u16v 0, u16v 0, u16v 0], w63 5, pt 1] [oU 12 ([38, 130] ++ be 0 2 ++ be 0 2 ++ be 0 2 ++ be 0 2 ++ be 0 2), ctlB]
  | _, _ => none
noncomputable def LCtl : LSpec := oneL 5 liveCtl LCtlf
--CP pCtl . :: fnK Try.prog (SCtl.calm []) LCtl Try.f46 [ctlV] []
theorem pCtl  : fnK Try.prog (SCtl.calm []) LCtl Try.f46 [ctlV] [] =
     (some (Res.ret (Value.tuple (Array.mk [Value.slice (some (Addr.mk (0 : Nat) (0 : Nat) none)) (12 : Nat) (1 : Nat), Value.int IntKind.i64 (0 : Int)])) [some (Blk.mk true (1 : Nat) [Seg.ints IntKind.u8
     (12 : Nat) [(38 : Int), (130 : Int), (0 : Int), (0 : Int), (0 : Int), (0 : Int), (0 : Int), (0 : Int), (0 : Int), (0 : Int), (0 : Int), (0 : Int)]])])) :=
  Eq.trans (by kernel_rfl) rfl
--CFEND
theorem SCtl_ok : SpecOK Try.prog SCtl := mkS_cons okPut (mkS_cons okBit (mkS_cons okFill (mkS_nil _)))
theorem loopOKCtl : LoopOK Try.prog Try.f46.ntmps 0 (loopOf Try.f46 0) liveCtl LCtlf := by
  refine LoopOK.of_rounds SCtl_ok follows_ok (L := noL) noL_ok ?_
  intro vs h k out hk
  unfold LCtlf at hk
  split at hk
  · exact ⟨_, _, _, hk, fun _ => ⟨6, pCtlL _⟩⟩
  · cases hk
theorem loopsCtl : LoopsOK Try.prog LCtl Try.f46.ntmps 0 (bodyOf Try.f46) := loops_one rfl (by kernel_rfl) loopOKCtl
def FCtl : FSpec := fun args h k => match args, h with
  | [.agg ⟨[.int .u8 4, .int .u8 2, .bool true, .bool false, .bool false, .int .u16 0, .int .u16 0, .int .u16 0, .int .u16 0, .slice none 0 0]⟩], [] =>
    k (.tuple ⟨[sl 0 12 1, w63 0]⟩) [oU 12 [38, 130, 0, 0, 0, 0, 0, 0, 0, 0, 0, 0]]
  | _, _ => none
theorem okCtl : EntryOK Try.prog 46 FCtl := by
  refine EntryOK.of_paths (fn := Try.f46) follows_ok Try.func46 (by kernel_rfl) (by kernel_rfl) ?_
  intro args h k out hF
  unfold FCtl at hF
  split at hF
  · exact ⟨_, _, hF, fun _ => ⟨_, LCtl, SCtl_ok.calm _, loopsCtl, pCtl⟩⟩
  · cases hF
noncomputable def SKnw : Spec := mkS [(21, false, FEnc 1), (46, false, FCtl)]
--CP pKnw . :: fnK Try.prog SKnw noL Try.f20 [] []
theorem pKnw 
    (h1 : (3 : Int) ≤ (3 : Int) ∧ (4 : Int) ≤ (7 : Int) ∧ (4 : Int) ≤ (7 : Int) := by first | omega | assumption | rfl) : fnK Try.prog SKnw noL Try.f20 [] [] =
     (some (Res.ret (Value.bool true) [])) :=
  Eq.trans (by kernel_rfl) (go_t (chk_t h1) rfl)
--CFEND
def FTrue : FSpec := fun args h k => match args, h with
  | [], [] => k (.bool true) []
  | _, _ => none
theorem okKnw : EntryOK Try.prog 20 FTrue := by
  refine EntryOK.of_paths (fn := Try.f20) follows_ok Try.func20 (by kernel_rfl) (by kernel_rfl) ?_
  intro args h k out hF
  unfold FTrue at hF
  split at hF
  · exact ⟨_, _, hF, fun _ => ⟨_, noL, mkS_cons okEnc (mkS_cons okCtl (mkS_nil _)), noL_ok, pKnw⟩⟩
  · cases hF
noncomputable def SPb : Spec := mkS [(20, false, FTrue), (21, false, FEnc 1), (22, false, FEnc 0), (23, false, FDec), (24, false, FMode)]
noncomputable def SPbR : Spec := mkS [(20, false, FTrue), (21, false, FEncR), (22, false, FEncR)]
--CP pPbN (p : Pk) (n : Nat) (xs : List Int) :: fnK Try.prog (SPb.on [(15, true)]) noL Try.f5 [pkv p, sl 0 n 2] [rU n xs]
theorem pPbN (p : Pk) (n : Nat) (xs : List Int)
    (h1 : (↑n : Int) > (100 : Int) := by first | omega | assumption | rfl) : fnK Try.prog (SPb.on [(15, true)]) noL Try.f5 [pkv p, sl 0 n 2] [rU n xs] =
     (some (Res.ret (Value.bool true) [some (Blk.mk false (1 : Nat) [Seg.ints IntKind.u8 n xs])])) :=
  Eq.trans (by kernel_rfl) (go_t (dec_t h1) rfl)
--CFEND
--CP pPbR (p : Pk) (n : Nat) (xs : List Int) :: fnK Try.prog (SPbR.on [(15, false), (32, false), (36, false), (38, true)]) noL Try.f5 [pkv p, sl 0 n 2] [rU n xs]
theorem pPbR (p : Pk) (n : Nat) (xs : List Int)
    (h1 : ¬(↑n : Int) > (100 : Int) := by first | omega | assumption | rfl)
    (h2 : ¬(p.l ≤ (3 : Int) ∧ p.v ≤ (7 : Int) ∧ p.m ≤ (7 : Int)) := by first | omega | assumption | rfl) : fnK Try.prog (SPbR.on [(15, false), (32, false), (36, false), (38, true)]) noL Try.f5 [pkv p, sl 0 n 2] [rU n xs] =
     (some (Res.ret (Value.bool true) [some (Blk.mk false (1 : Nat) [Seg.ints IntKind.u8 n xs])])) :=
  Eq.trans (by kernel_rfl) (go_f (dec_f h1) (go_t (chk_t h2) (go_t (chk_t h2) rfl)))
--CFEND
--CP pPb (p : Pk) (n : Nat) (xs : List Int) :: fnK Try.prog (SPb.on [(15, false), (32, false), (36, false), (38, false), (56, true), (61, true), (65, true), (71, true)]) noL Try.f5 [pkv p, sl 0 n 2] [rU n xs]
theorem pPb (p : Pk) (n : Nat) (xs : List Int)
    (h1 : ¬(↑n : Int) > (100 : Int) := by first | omega | assumption | rfl)
    (h2 : p.l ≤ (3 : Int) ∧ p.v ≤ (7 : Int) ∧ p.m ≤ (7 : Int) := by first | omega | assumption | rfl)
    (h3 : ((strOf (List.take (48 : Nat) (pkL p))).toList == (strOf (List.take (48 : Nat) (pkL p))).toList) = true := by first | omega | assumption | rfl)
    (h4 : n ≤ n := by first | omega | assumption | rfl)
    (h5 : (48 : Nat) + n ≤ (140737488355328 : Nat) := by first | omega | assumption | rfl)
    (h6 : (48 : Nat) + n ≤ (4611686018427387904 : Nat) := by first | omega | assumption | rfl)
    (h7 : (48 : Nat) + n = (48 : Nat) + n ∧ (48 : Nat) ≤ (48 : Nat) + n ∧ (48 : Nat) + n ≤ (1000000 : Nat) := by first | omega | assumption | rfl)
    (h8 : (48 : Nat) = (48 : Nat) ∧ (1 : Nat) ≤ (48 : Nat) := by first | omega | assumption | rfl)
    (h9 : (decP (List.take (48 : Nat) (List.take (48 : Nat) (pkL p)) ++ List.take n xs)).l = p.l := by first | omega | assumption | rfl)
    (h10 : (decP (List.take (48 : Nat) (List.take (48 : Nat) (pkL p)) ++ List.take n xs)).v = p.v := by first | omega | assumption | rfl)
    (h11 : (decP (List.take (48 : Nat) (List.take (48 : Nat) (pkL p)) ++ List.take n xs)).m = p.m := by first | omega | assumption | rfl)
    (h12 : (decP (List.take (48 : Nat) (List.take (48 : Nat) (pkL p)) ++ List.take n xs)).s = p.s := by first | omega | assumption | rfl)
    (h13 : (decP (List.take (48 : Nat) (List.take (48 : Nat) (pkL p)) ++ List.take n xs)).po = p.po := by first | omega | assumption | rfl)
    (h14 : (decP (List.take (48 : Nat) (List.take (48 : Nat) (pkL p)) ++ List.take n xs)).pr = p.pr := by first | omega | assumption | rfl)
    (h15 : (decP (List.take (48 : Nat) (List.take (48 : Nat) (pkL p)) ++ List.take n xs)).de = p.de := by first | omega | assumption | rfl)
    (h16 : (decP (List.take (48 : Nat) (List.take (48 : Nat) (pkL p)) ++ List.take n xs)).di = p.di := by first | omega | assumption | rfl)
    (h17 : (decP (List.take (48 : Nat) (List.take (48 : Nat) (pkL p)) ++ List.take n xs)).r0 = p.r0 := by first | omega | assumption | rfl)
    (h18 : (decP (List.take (48 : Nat) (List.take (48 : Nat) (pkL p)) ++ List.take n xs)).r1 = p.r1 := by first | omega | assumption | rfl)
    (h19 : (decP (List.take (48 : Nat) (List.take (48 : Nat) (pkL p)) ++ List.take n xs)).r2 = p.r2 := by first | omega | assumption | rfl)
    (h20 : (decP (List.take (48 : Nat) (List.take (48 : Nat) (pkL p)) ++ List.take n xs)).r3 = p.r3 := by first | omega | assumption | rfl)
    (h21 : (decP (List.take (48 : Nat) (List.take (48 : Nat) (pkL p)) ++ List.take n xs)).a = p.a := by first | omega | assumption | rfl)
    (h22 : (decP (List.take (48 : Nat) (List.take (48 : Nat) (pkL p)) ++ List.take n xs)).b = p.b := by first | omega | assumption | rfl)
    (h23 : (decP (List.take (48 : Nat) (List.take (48 : Nat) (pkL p)) ++ List.take n xs)).c = p.c := by first | omega | assumption | rfl)
    (h24 : (decP (List.take (48 : Nat) (List.take (48 : Nat) (pkL p)) ++ List.take n xs)).d = p.d := by first | omega | assumption | rfl)
    (h25 : (pkL p).getD (0 : Nat) (0 : Int) % (8 : Int) = p.m := by first | omega | assumption | rfl) : fnK Try.prog (SPb.on [(15, false), (32, false), (36, false), (38, false), (56, true), (61, true), (65, true), (71, true)]) noL Try.f5 [pkv p, sl 0 n 2] [rU n xs] =
     (some (Res.ret (Value.bool true) [some (Blk.mk false (1 : Nat) [Seg.ints IntKind.u8 n xs])])) :=
  Eq.trans (b :=
     bif decide ((↑n : Int) > (100 : Int)) then none else bif chk (p.l ≤ (3 : Int) ∧ p.v ≤ (7 : Int) ∧ p.m ≤ (7 : Int)) then bif chk (p.l ≤ (3 : Int) ∧ p.v ≤ (7 : Int) ∧ p.m ≤ (7 : Int)) then bif !(strOf
     (List.take (48 : Nat) (pkL p))).toList == (strOf (List.take (48 : Nat) (pkL p))).toList then none else bif (n * (1 : Nat)).ble n then bif decide (((48 : Nat) + n) * (1 : Nat) ≤ (140737488355328 :
     Nat)) && ((48 : Nat) + n).ble (OfNat.ofNat (4611686018427387904 : Nat)) then bif chk ((48 : Nat) + n * (1 : Nat) = (48 : Nat) + n ∧ (48 : Nat) ≤ (48 : Nat) + n ∧ (48 : Nat) + n ≤ (1000000 : Nat)) then
     bif chk ((48 : Nat) = (48 : Nat) ∧ (1 : Nat) ≤ (48 : Nat)) then bif (decP (List.take (48 : Nat) (List.take (48 : Nat) (pkL p)) ++ List.take (n * (1 : Nat)) xs)).l == p.l && ((decP (List.take (48 :
     Nat) (List.take (48 : Nat) (pkL p)) ++ List.take (n * (1 : Nat)) xs)).v == p.v && ((decP (List.take (48 : Nat) (List.take (48 : Nat) (pkL p)) ++ List.take (n * (1 : Nat)) xs)).m == p.m && ((decP
     (List.take (48 : Nat) (List.take (48 : Nat) (pkL p)) ++ List.take (n * (1 : Nat)) xs)).s == p.s && ((decP (List.take (48 : Nat) (List.take (48 : Nat) (pkL p)) ++ List.take (n * (1 : Nat)) xs)).po ==
     p.po && ((decP (List.take (48 : Nat) (List.take (48 : Nat) (pkL p)) ++ List.take (n * (1 : Nat)) xs)).pr == p.pr && ((decP (List.take (48 : Nat) (List.take (48 : Nat) (pkL p)) ++ List.take (n * (1 :
     Nat)) xs)).de == p.de && ((decP (List.take (48 : Nat) (List.take (48 : Nat) (pkL p)) ++ List.take (n * (1 : Nat)) xs)).di == p.di && ((decP (List.take (48 : Nat) (List.take (48 : Nat) (pkL p)) ++
     List.take (n * (1 : Nat)) xs)).r0 == p.r0 && ((decP (List.take (48 : Nat) (List.take (48 : Nat) (pkL p)) ++ List.take (n * (1 : Nat)) xs)).r1 == p.r1 && ((decP (List.take (48 : Nat) (List.take (48 :
     Nat) (pkL p)) ++ List.take (n * (1 : Nat)) xs)).r2 == p.r2 && ((decP (List.take (48 : Nat) (List.take (48 : Nat) (pkL p)) ++ List.take (n * (1 : Nat)) xs)).r3 == p.r3 && true))) && ((decP (List.take
     (48 : Nat) (List.take (48 : Nat) (pkL p)) ++ List.take (n * (1 : Nat)) xs)).a == p.a && ((decP (List.take (48 : Nat) (List.take (48 : Nat) (pkL p)) ++ List.take (n * (1 : Nat)) xs)).b == p.b && ((decP
     (List.take (48 : Nat) (List.take (48 : Nat) (pkL p)) ++ List.take (n * (1 : Nat)) xs)).c == p.c && ((decP (List.take (48 : Nat) (List.take (48 : Nat) (pkL p)) ++ List.take (n * (1 : Nat)) xs)).d ==
     p.d && true)))))))))))) then bif (pkL p).getD (0 : Nat) (0 : Int) % (8 : Int) == p.m then some (Res.ret (Value.bool true) [some (Blk.mk false (1 : Nat) [Seg.ints IntKind.u8 n xs])]) else none else
     none else none else none else none else none else none else none) (by kernel_rfl) (by (try simp only [-eq_self, Int.toNat_natCast, Nat.mul_one, Nat.zero_add, segsLen_one]); exact (go_f (dec_f h1) (go_t (chk_t h2) (go_t (chk_t h2) (go_f (not_f h3) (go_t (ble_t h4) (go_t (and_t (dec_t h5) (ble_t h6)) (go_t (chk_t h7) (go_t (chk_t h8) (go_t (and_t (eqb_t h9) (and_t (eqb_t h10) (and_t (eqb_t h11) (and_t (eqb_t h12) (and_t (eqb_t h13) (and_t (eqb_t h14) (and_t (eqb_t h15) (and_t (eqb_t h16) (and_t (and_t (eqb_t h17) (and_t (eqb_t h18) (and_t (eqb_t h19) (and_t (eqb_t h20) rfl)))) (and_t (eqb_t h21) (and_t (eqb_t h22) (and_t (eqb_t h23) (and_t (eqb_t h24) rfl))))))))))))) (go_t (eqb_t h25) rfl)))))))))))
--CFEND
noncomputable def FPb : FSpec := fun args h k => match args, h with
  | [.agg ⟨cs⟩, .slice (some ⟨0, 0, none⟩) n 2], [some ⟨false, 1, [.ints .u8 N xs]⟩] => match pkOf cs with
    | some _ => bif Nat.beq N n then k (.bool true) [rU N xs] else none
    | none => none
  | _, _ => none
theorem SPb_ok : SpecOK Try.prog SPb := mkS_cons okKnw (mkS_cons okEnc (mkS_cons okREnc (mkS_cons okDec (mkS_cons okMode (mkS_nil _)))))
theorem SPbR_ok : SpecOK Try.prog SPbR := mkS_cons okKnw (mkS_cons okEncR (mkS_cons okREncR (mkS_nil _)))
theorem okPb : EntryOK Try.prog 5 FPb := by
  refine EntryOK.of_paths (fn := Try.f5) follows_ok Try.func5 (by kernel_rfl) (by kernel_rfl) ?_
  intro args h k out hF
  unfold FPb at hF
  split at hF
  · rename_i cs n N xs
    split at hF
    · rename_i p hp
      obtain ⟨hb, hF2⟩ := bif_t hF
      obtain rfl := beq_true hb
      obtain rfl := pkOf_some hp
      refine ⟨_, _, hF2, fun real => ?_⟩
      have ok := PkOK.of real (i := 0) rfl
      have hl := real.segs (i := 0) rfl _ (List.mem_cons_self ..)
      by_cases c0 : (N : Int) > 100
      · exact ⟨_, noL, SPb_ok.on _, noL_ok, pPbN p N xs⟩
      · by_cases c1 : p.l ≤ 3 ∧ p.v ≤ 7 ∧ p.m ≤ 7
        · have e0 : List.take 48 (pkL p) = pkL p := rfl
          have e1 := decP_pkL ok c1.2.1 c1.2.2 (List.take N xs)
          have e2 : (pkL p).getD 0 0 % 8 = p.m := by
            have q1 := ok.l; have q3 := ok.m
            show (p.l * 64 + p.v * 8 + p.m) % 8 = p.m
            omega
          have key := @pPb p N xs
          rw [e0, e0, e1] at key
          exact ⟨_, noL, SPb_ok.on _, noL_ok, key (by omega) c1 (by rw [beq_self_eq_true]) (by omega) (by omega) (by omega) (by omega) (by omega) rfl rfl rfl rfl rfl rfl rfl rfl rfl rfl rfl rfl rfl rfl rfl rfl e2⟩
        · exact ⟨_, noL, SPbR_ok.on _, noL_ok, pPbR p N xs⟩
    · cases hF
  · cases hF
theorem top5 {c0 c1 c2 c3 c4 c5 c6 c7 c8 c9 c10 c11 c12 c13 c14 c15 : Int} {n : Nat} {xs : List Int} {k : Value → Heap → Out} :
    FPb [.agg #[u8v c0, u8v c1, u8v c2, u8v c3, i8v c4, i8v c5, u32v c6, u32v c7, u8v c8, u8v c9, u8v c10, u8v c11, u64v c12, u64v c13, u64v c14, u64v c15], sl 0 n 2] [rU n xs] k = k (.bool true) [rU n xs] := by
  show (bif Nat.beq n n then k (.bool true) [rU n xs] else none) = _
  rw [beq_t rfl]
  exact condT
theorem ok5 : EntryOK Try.prog 5 FPb := okPb
end Go.Proofs.Ytpidmcpnkfgcjaa.VC
