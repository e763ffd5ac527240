/- packet: what the functions answer. -/
import Derived.Test.YtpidmcpnkfgcjaaK4
namespace Go.Proofs.Ytpidmcpnkfgcjaa.VC
open Go Go.Proofs

theorem okLarge : EntryOK Try.prog 48 FLarge := by
  refine EntryOK.of_paths (fn := Try.f48) follows_ok Try.func48 (by kernel_rfl) (by kernel_rfl) ?_
  intro args h k out hF
  unfold FLarge at hF
  split at hF
  · rename_i x
    refine ⟨_, _, hF, fun real => ⟨_, noL, mk0, noL_ok, (cfLarge x).trans ?_⟩⟩
    have hx := real.int (i := 0) rfl
    have h1 : -128 ≤ x := hx.1
    have h2 : x ≤ 127 := hx.2
    refine dc (fun c => ?_) (fun c => ?_)
    · rw [swrap (x := x) (by omega) (by omega), swrap (by omega) (by omega), wU8, show (x + 256) % 256 = x % 256 by omega]
    · rw [wU8]
  · cases hF
/-- A packet's bytes. -/
def pkL (p : Pk) : List Int := [p.l * 64 + p.v * 8 + p.m, p.s, p.po % 256, p.pr % 256] ++ be p.de 4 ++ be p.di 4 ++ [p.r0, p.r1, p.r2, p.r3] ++ be p.a 8 ++ be p.b 8 ++ be p.c 8 ++ be p.d 8
def pkOf : List Value → Option Pk
  | [.int .u8 l, .int .u8 v, .int .u8 m, .int .u8 s, .int .i8 po, .int .i8 pr, .int .u32 de, .int .u32 di, .int .u8 r0, .int .u8 r1, .int .u8 r2, .int .u8 r3, .int .u64 a, .int .u64 b, .int .u64 c, .int .u64 d] => some ⟨l, v, m, s, po, pr, de, di, r0, r1, r2, r3, a, b, c, d⟩
  | _ => none
def pkC (p : Pk) : List Value := [u8v p.l, u8v p.v, u8v p.m, u8v p.s, i8v p.po, i8v p.pr, u32v p.de, u32v p.di, u8v p.r0, u8v p.r1, u8v p.r2, u8v p.r3, u64v p.a, u64v p.b, u64v p.c, u64v p.d]
theorem pkOf_some {cs : List Value} {p : Pk} (h : pkOf cs = some p) : cs = pkC p := by
  unfold pkOf at h
  split at h
  · cases h; rfl
  · cases h
structure PkOK (p : Pk) : Prop where
  l : 0 ≤ p.l ∧ p.l ≤ 255
  v : 0 ≤ p.v ∧ p.v ≤ 255
  m : 0 ≤ p.m ∧ p.m ≤ 255
  s : 0 ≤ p.s ∧ p.s ≤ 255
  po : -128 ≤ p.po ∧ p.po ≤ 127
  pr : -128 ≤ p.pr ∧ p.pr ≤ 127
  de : 0 ≤ p.de ∧ p.de ≤ 4294967295
  di : 0 ≤ p.di ∧ p.di ≤ 4294967295
  r0 : 0 ≤ p.r0 ∧ p.r0 ≤ 255
  r1 : 0 ≤ p.r1 ∧ p.r1 ≤ 255
  r2 : 0 ≤ p.r2 ∧ p.r2 ≤ 255
  r3 : 0 ≤ p.r3 ∧ p.r3 ≤ 255
  a : 0 ≤ p.a ∧ p.a ≤ 18446744073709551615
  b : 0 ≤ p.b ∧ p.b ≤ 18446744073709551615
  c : 0 ≤ p.c ∧ p.c ≤ 18446744073709551615
  d : 0 ≤ p.d ∧ p.d ≤ 18446744073709551615
theorem PkOK.of {args : List Value} {h : Heap} {p : Pk} (hr : RealA args h) {i : Nat} (ha : args[i]? = some (.agg ⟨pkC p⟩)) : PkOK p :=
  ⟨hr.aggI ha (j := 0) rfl, hr.aggI ha (j := 1) rfl, hr.aggI ha (j := 2) rfl, hr.aggI ha (j := 3) rfl, hr.aggI ha (j := 4) rfl, hr.aggI ha (j := 5) rfl, hr.aggI ha (j := 6) rfl, hr.aggI ha (j := 7) rfl,
   hr.aggI ha (j := 8) rfl, hr.aggI ha (j := 9) rfl, hr.aggI ha (j := 10) rfl, hr.aggI ha (j := 11) rfl, hr.aggI ha (j := 12) rfl, hr.aggI ha (j := 13) rfl, hr.aggI ha (j := 14) rfl, hr.aggI ha (j := 15) rfl⟩
noncomputable def FEnc (c : Nat) : FSpec := fun args h k => match args, h with
  | [.agg ⟨cs⟩], [] => match pkOf cs with
    | some p => bif chk (p.l ≤ 3 ∧ p.v ≤ 7 ∧ p.m ≤ 7) then k (.tuple ⟨[sl 0 48 c, w63 0]⟩) [oU 48 (pkL p)] else none
    | none => none
  | _, _ => none
noncomputable def FEncR : FSpec := fun args h k => match args, h with
  | [.agg ⟨cs⟩], [] => match pkOf cs with
    | some p => bif chk (¬ (p.l ≤ 3 ∧ p.v ≤ 7 ∧ p.m ≤ 7)) then k (.tuple ⟨[.slice none 0 0, w63 2]⟩) [] else none
    | none => none
  | _, _ => none
theorem SPut_ok : SpecOK Try.prog SPut := mkS_cons okPut (mkS_nil _)
theorem loopOKEnc : LoopOK Try.prog Try.f21.ntmps 0 (loopOf Try.f21 0) liveEnc LEncf := by
  refine LoopOK.of_rounds SPut_ok follows_ok (L := noL) noL_ok ?_
  intro vs h k out hk
  unfold LEncf at hk
  split at hk
  · rename_i n a b c d N xs
    obtain ⟨hb, hk2⟩ := bif_t hk
    obtain ⟨rfl, h2⟩ := chk_iff.1 hb
    exact ⟨_, _, _, hk2, fun _ => ⟨5, pEncL a b c d N xs _⟩⟩
  · cases hk
theorem loopsEnc : LoopsOK Try.prog LEnc Try.f21.ntmps 0 (bodyOf Try.f21) := loops_one rfl (by kernel_rfl) loopOKEnc
theorem head_or {l v m : Int} (h0 : 0 ≤ l) (h1 : l ≤ 3) (h2 : 0 ≤ v) (h3 : v ≤ 7) (h4 : 0 ≤ m) (h5 : m ≤ 7) : bits .or .u8 (bits .or .u8 (IntKind.u8.wrap (l * 64)) (IntKind.u8.wrap (v * 8))) m = l * 64 + v * 8 + m := by
  rw [wU8, wU8, Int.emod_eq_of_lt (by omega) (by omega), Int.emod_eq_of_lt (by omega) (by omega)]
  have e1 := bits_up .u8 rfl (h := l) (c := v * 8) 6 h0 (by omega) (by show l * 64 < 256; omega) (by show v * 8 < 64; omega) (by decide)
  have e1' : bits .or .u8 (l * 64) (v * 8) = l * 64 + v * 8 := e1
  have e2 := bits_up .u8 rfl (h := l * 8 + v) (c := m) 3 (by omega) h4 (by show (l * 8 + v) * 8 < 256; omega) (by show m < 8; omega) (by decide)
  have e2' : bits .or .u8 ((l * 8 + v) * 8) m = (l * 8 + v) * 8 + m := e2
  rw [e1', show l * 64 + v * 8 = (l * 8 + v) * 8 by omega, e2']
theorem be4 (x : Int) : be x 4 = [beB x 3, beB x 2, beB x 1, beB x 0] := rfl
theorem be8 (x : Int) : be x 8 = [beB x 7, beB x 6, beB x 5, beB x 4, beB x 3, beB x 2, beB x 1, beB x 0] := rfl
theorem okEnc : EntryOK Try.prog 21 (FEnc 1) := by
  refine EntryOK.of_paths (fn := Try.f21) follows_ok Try.func21 (by kernel_rfl) (by kernel_rfl) ?_
  intro args h k out hF
  unfold FEnc at hF
  split at hF
  · rename_i cs
    split at hF
    · rename_i p hp
      obtain ⟨hb, hF2⟩ := bif_t hF
      obtain ⟨h1, h2, h3⟩ := chk_iff.1 hb
      obtain rfl := pkOf_some hp
      refine ⟨_, _, hF2, fun real => ⟨_, LEnc, (SPut_ok.calm _).on _, loopsEnc, (pEnc p).trans ?_⟩⟩
      have ok := PkOK.of real (i := 0) rfl
      have q1 := ok.l; have q2 := ok.v; have q3 := ok.m; have q4 := ok.de; have q5 := ok.di
      rw [head_or (by omega) (by omega) (by omega) (by omega) (by omega) (by omega), wU8, wU8, wU64, wU64, Int.emod_eq_of_lt (a := p.de) (by omega) (by omega), Int.emod_eq_of_lt (a := p.di) (by omega) (by omega)]
      rfl
    · cases hF
  · cases hF
theorem okEncR : EntryOK Try.prog 21 FEncR := by
  refine EntryOK.of_paths (fn := Try.f21) follows_ok Try.func21 (by kernel_rfl) (by kernel_rfl) ?_
  intro args h k out hF
  unfold FEncR at hF
  split at hF
  · rename_i cs
    split at hF
    · rename_i p hp
      obtain ⟨hb, hF2⟩ := bif_t hF
      have h1 := chk_iff.1 hb
      obtain rfl := pkOf_some hp
      refine ⟨_, _, hF2, fun real => ?_⟩
      by_cases c1 : p.l > 3
      · exact ⟨_, LEnc, SPut_ok.on _, loopsEnc, pEncR1 p⟩
      · by_cases c2 : p.v > 7
        · exact ⟨_, LEnc, SPut_ok.on _, loopsEnc, pEncR2 p⟩
        · exact ⟨_, LEnc, SPut_ok.on _, loopsEnc, pEncR3 p⟩
    · cases hF
  · cases hF
theorem SLay_ok : SpecOK Try.prog SLay := mkS_cons okLay (mkS_cons okLarge (mkS_nil _))
theorem loopOKREnc : LoopOK Try.prog Try.f22.ntmps 0 (loopOf Try.f22 0) liveREnc LREncf := by
  refine LoopOK.of_rounds SLay_ok follows_ok (L := noL) noL_ok ?_
  intro vs h k out hk
  unfold LREncf at hk
  split at hk
  · exact ⟨_, _, _, hk, fun _ => ⟨5, pREncL ⟨_, _, _, _, _, _, _, _, _, _, _, _, _, _, _, _⟩ _ _⟩⟩
  · cases hk
theorem loopsREnc : LoopsOK Try.prog LREnc Try.f22.ntmps 0 (bodyOf Try.f22) := loops_one rfl (by kernel_rfl) loopOKREnc
theorem d4 (x : Int) : [x / 256 / 256 / 256 % 256, x / 256 / 256 % 256, x / 256 % 256, x % 256] = be x 4 := by
  rw [be_snoc, be_snoc, be_snoc, be_snoc]; rfl
theorem d8 (x : Int) : [x / 256 / 256 / 256 / 256 / 256 / 256 / 256 % 256, x / 256 / 256 / 256 / 256 / 256 / 256 % 256, x / 256 / 256 / 256 / 256 / 256 % 256, x / 256 / 256 / 256 / 256 % 256, x / 256 / 256 / 256 % 256, x / 256 / 256 % 256, x / 256 % 256, x % 256] = be x 8 := by
  rw [be_snoc, be_snoc, be_snoc, be_snoc, be_snoc, be_snoc, be_snoc, be_snoc]; rfl
theorem okREnc : EntryOK Try.prog 22 (FEnc 0) := by
  refine EntryOK.of_paths (fn := Try.f22) follows_ok Try.func22 (by kernel_rfl) (by kernel_rfl) ?_
  intro args h k out hF
  unfold FEnc at hF
  split at hF
  · rename_i cs
    split at hF
    · rename_i p hp
      obtain ⟨hb, hF2⟩ := bif_t hF
      obtain ⟨h1, h2, h3⟩ := chk_iff.1 hb
      obtain rfl := pkOf_some hp
      refine ⟨_, _, hF2, fun real => ⟨_, LREnc, (SLay_ok.calm _).on _, loopsREnc, (pREnc p).trans ?_⟩⟩
      have ok := PkOK.of real (i := 0) rfl
      have q1 := ok.l; have q2 := ok.v; have q3 := ok.m; have q4 := ok.de; have q5 := ok.di
      rw [wU8, wU8, wU8, wU8, wU64, wU64, Int.emod_eq_of_lt (a := p.de) (by omega) (by omega), Int.emod_eq_of_lt (a := p.di) (by omega) (by omega),
        Int.emod_eq_of_lt (a := p.l * 64) (by omega) (by omega), Int.emod_eq_of_lt (a := p.v * 8) (by omega) (by omega), Int.emod_eq_of_lt (a := p.l * 64 + p.v * 8) (by omega) (by omega), Int.emod_eq_of_lt (a := p.l * 64 + p.v * 8 + p.m) (by omega) (by omega)]
      unfold pkL
      rw [← d4, ← d4, ← d8, ← d8, ← d8, ← d8]
      rfl
    · cases hF
  · cases hF
theorem okREncR : EntryOK Try.prog 22 FEncR := by
  refine EntryOK.of_paths (fn := Try.f22) follows_ok Try.func22 (by kernel_rfl) (by kernel_rfl) ?_
  intro args h k out hF
  unfold FEncR at hF
  split at hF
  · rename_i cs
    split at hF
    · rename_i p hp
      obtain ⟨hb, hF2⟩ := bif_t hF
      have h1 := chk_iff.1 hb
      obtain rfl := pkOf_some hp
      refine ⟨_, _, hF2, fun real => ?_⟩
      by_cases c1 : p.l > 3
      · exact ⟨_, LREnc, SLay_ok.on _, loopsREnc, pREncR1 p⟩
      · by_cases c2 : p.v > 7
        · exact ⟨_, LREnc, SLay_ok.on _, loopsREnc, pREncR2 p⟩
        · exact ⟨_, LREnc, SLay_ok.on _, loopsREnc, pREncR3 p⟩
    · cases hF
  · cases hF
end Go.Proofs.Ytpidmcpnkfgcjaa.VC
