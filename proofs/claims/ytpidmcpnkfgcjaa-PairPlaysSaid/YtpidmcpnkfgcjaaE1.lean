/- edge: closed forms. -/
import Derived.Test.YtpidmcpnkfgcjaaGX
namespace Go.Proofs.Ytpidmcpnkfgcjaa.VC
open Go Go.Proofs

abbrev eB (own : Bool) (xs : List Int) : Option Blk := some ⟨own, 9, [.ints .i64 9 xs]⟩
abbrev pr2 (v : Int) (b : Bool) : Value := .tuple ⟨[w63 v, .bool b]⟩
--CF cf11 . :: fnK Try.prog (mkS []) noL Try.f11 [] []
theorem cf11  : fnK Try.prog (mkS []) noL Try.f11 [] [] =
     (some (Res.ret (Value.pointer (some (Addr.mk 0 0 none))) [some (Blk.mk true 9 [Seg.ints IntKind.i64 9 [0, 0, 0, 0, 0, 0, 0, 0, 0]])])) := by kernel_rfl
--CFEND
--CF cf16n . :: fnK Try.prog (mkS []) noL Try.f16 [.pointer none] []
theorem cf16n  : fnK Try.prog (mkS []) noL Try.f16 [.pointer none] [] =
     (some (Res.ret (Value.tuple (Array.mk [Value.int IntKind.i64 0, Value.bool false])) [])) := by kernel_rfl
--CFEND
--CF cf16 (xs : List Int) :: fnK Try.prog (mkS []) noL Try.f16 [pt 0] [eB false xs]
theorem cf16 (xs : List Int) : fnK Try.prog (mkS []) noL Try.f16 [pt 0] [eB false xs] =
     (bif xs.getD 8 0 == 0 then some (Res.ret (Value.tuple (Array.mk [Value.int IntKind.i64 0, Value.bool false])) [some (Blk.mk false 9 [Seg.ints IntKind.i64 9 xs])]) else bif decide (0 ≤
     (IntKind.i64.wrap (xs.getD 8 0 - 1)).tmod 8) && decide ((IntKind.i64.wrap (xs.getD 8 0 - 1)).tmod 8 < 8) then bif (0 + ((IntKind.i64.wrap (xs.getD 8 0 - 1)).tmod 8).toNat * 1).blt 9 then some (Res.ret
     (Value.tuple (Array.mk [Value.int IntKind.i64 (xs.getD (0 + ((IntKind.i64.wrap (xs.getD 8 0 - 1)).tmod 8).toNat * 1) 0), Value.bool true])) [some (Blk.mk false 9 [Seg.ints IntKind.i64 9 xs])]) else
     none else none) := by kernel_rfl
--CFEND
--CF cf12n . :: fnK Try.prog (mkS []) noL Try.f12 [.pointer none] []
theorem cf12n  : fnK Try.prog (mkS []) noL Try.f12 [.pointer none] [] =
     (some (Res.ret (Value.pointer none) [])) := by kernel_rfl
--CFEND
--CF cf12 (xs : List Int) :: fnK Try.prog (mkS []) noL Try.f12 [pt 0] [eB false xs]
theorem cf12 (xs : List Int) : fnK Try.prog (mkS []) noL Try.f12 [pt 0] [eB false xs] =
     (some (Res.ret (Value.pointer (some (Addr.mk 1 0 none))) [some (Blk.mk false 9 [Seg.ints IntKind.i64 9 xs]), some (Blk.mk true 9 [Seg.ints IntKind.i64 9 [xs.getD 0 0, xs.getD 1 0, xs.getD 2 0, xs.getD
     3 0, xs.getD 4 0, xs.getD 5 0, xs.getD 6 0, xs.getD 7 0, xs.getD 8 0]])])) := by kernel_rfl
--CFEND
--CF cf15n . :: fnK Try.prog (mkS []) noL Try.f15 [.pointer none] []
theorem cf15n  : fnK Try.prog (mkS []) noL Try.f15 [.pointer none] [] =
     (some (Res.ret (Value.slice none 0 0) [])) := by kernel_rfl
--CFEND
--CF cf45 (c a b : Int) :: fnK Try.prog (mkS []) noL Try.f45 [w63 c, pt 0, pt 1] [some ⟨false, 1, [.ints .i64 1 [a]]⟩, some ⟨false, 1, [.ints .i64 1 [b]]⟩]
theorem cf45 (c a b : Int) : fnK Try.prog (mkS []) noL Try.f45 [w63 c, pt 0, pt 1] [some ⟨false, 1, [.ints .i64 1 [a]]⟩, some ⟨false, 1, [.ints .i64 1 [b]]⟩] =
     (bif decide (c ≥ a) then some (Res.ret (Value.bool (decide (c ≤ b))) [some (Blk.mk false 1 [Seg.ints IntKind.i64 1 [a]]), some (Blk.mk false 1 [Seg.ints IntKind.i64 1 [b]])]) else some (Res.ret
     (Value.bool false) [some (Blk.mk false 1 [Seg.ints IntKind.i64 1 [a]]), some (Blk.mk false 1 [Seg.ints IntKind.i64 1 [b]])])) := by kernel_rfl
--CFEND
noncomputable def F16 : FSpec := fun args h k => match args, h with
  | [.pointer none], [] => k (pr2 0 false) []
  | [.pointer (some ⟨0, 0, none⟩)], [some ⟨false, 9, [.ints .i64 9 xs]⟩] => bif xs.getD 8 0 == 0 then k (pr2 0 false) [eB false xs] else
    bif chk (1 ≤ xs.getD 8 0 ∧ xs.getD 8 0 ≤ 1000) then k (pr2 (xs.getD ((xs.getD 8 0 - 1) % 8).toNat 0) true) [eB false xs] else none
  | _, _ => none
noncomputable def S13 : Spec := mkS [(16, false, F16)]
--CF cf13n (c : Int) :: fnK Try.prog S13 noL Try.f13 [.pointer none, w63 c] []
theorem cf13n (c : Int) : fnK Try.prog S13 noL Try.f13 [.pointer none, w63 c] [] =
     (some (Res.ret (Value.int IntKind.i64 1) [])) := by kernel_rfl
--CFEND
--CF cf13 (xs : List Int) (c : Int) :: fnK Try.prog S13 noL Try.f13 [pt 0, w63 c] [eB true xs]
theorem cf13 (xs : List Int) (c : Int) : fnK Try.prog S13 noL Try.f13 [pt 0, w63 c] [eB true xs] =
     (bif xs.getD 8 0 == 0 then bif decide (c < 0) then some (Res.ret (Value.int IntKind.i64 2) [some (Blk.mk true 9 [Seg.ints IntKind.i64 9 xs])]) else bif decide (0 ≤ (xs.getD 8 0).tmod 8) && decide
     ((xs.getD 8 0).tmod 8 < 8) then bif (0 + ((xs.getD 8 0).tmod 8).toNat * 1).blt 9 then some (Res.ret (Value.int IntKind.i64 0) [some (Blk.mk true 9 [Seg.ints IntKind.i64 9 ((xs.set (0 + ((xs.getD 8
     0).tmod 8).toNat * 1) c).set 8 (IntKind.i64.wrap ((xs.set (0 + ((xs.getD 8 0).tmod 8).toNat * 1) c).getD 8 0 + 1)))])]) else none else none else bif chk (1 ≤ xs.getD 8 0 ∧ xs.getD 8 0 ≤ 1000) then bif
     decide (c < 0) then some (Res.ret (Value.int IntKind.i64 2) [some (Blk.mk true 9 [Seg.ints IntKind.i64 9 xs])]) else bif decide (c < xs.getD ((xs.getD 8 0 - 1) % 8).toNat 0) then some (Res.ret
     (Value.int IntKind.i64 2) [some (Blk.mk true 9 [Seg.ints IntKind.i64 9 xs])]) else bif decide (0 ≤ (xs.getD 8 0).tmod 8) && decide ((xs.getD 8 0).tmod 8 < 8) then bif (0 + ((xs.getD 8 0).tmod 8).toNat
     * 1).blt 9 then some (Res.ret (Value.int IntKind.i64 0) [some (Blk.mk true 9 [Seg.ints IntKind.i64 9 ((xs.set (0 + ((xs.getD 8 0).tmod 8).toNat * 1) c).set 8 (IntKind.i64.wrap ((xs.set (0 + ((xs.getD
     8 0).tmod 8).toNat * 1) c).getD 8 0 + 1)))])]) else none else none else none) := by kernel_rfl
--CFEND
def pushR (xs : List Int) (c : Int) : List Int := (xs.set (xs.getD 8 0 % 8).toNat c).set 8 (xs.getD 8 0 + 1)
def F11 : FSpec := fun args h k => match args, h with
  | [], [] => k (pt 0) [eB true [0, 0, 0, 0, 0, 0, 0, 0, 0]]
  | _, _ => none
def F12 : FSpec := fun args h k => match args, h with
  | [.pointer none], [] => k (.pointer none) []
  | [.pointer (some ⟨0, 0, none⟩)], [some ⟨false, 9, [.ints .i64 9 xs]⟩] => k (pt 1) [eB false xs, eB true [xs.getD 0 0, xs.getD 1 0, xs.getD 2 0, xs.getD 3 0, xs.getD 4 0, xs.getD 5 0, xs.getD 6 0, xs.getD 7 0, xs.getD 8 0]]
  | _, _ => none
/-- Is an edge refused? -/
def lowB (xs : List Int) (c : Int) : Bool := decide (c < 0) || (!(xs.getD 8 0 == 0) && decide (c < xs.getD ((xs.getD 8 0 - 1) % 8).toNat 0))
noncomputable def F13 : FSpec := fun args h k => match args, h with
  | [.pointer none, .int .i64 _], [] => k (w63 1) []
  | [.pointer (some ⟨0, 0, none⟩), .int .i64 c], [some ⟨true, 9, [.ints .i64 9 xs]⟩] =>
    bif chk (0 ≤ xs.getD 8 0 ∧ xs.getD 8 0 ≤ 1000) then (bif lowB xs c then k (w63 2) [eB true xs] else k (w63 0) [eB true (pushR xs c)]) else none
  | _, _ => none
def F45 : FSpec := fun args h k => match args, h with
  | [.int .i64 c, .pointer (some ⟨0, 0, none⟩), .pointer (some ⟨1, 0, none⟩)], [some ⟨false, 1, [.ints .i64 1 [a]]⟩, some ⟨false, 1, [.ints .i64 1 [b]]⟩] =>
    k (.bool (decide (a ≤ c) && decide (c ≤ b))) [some ⟨false, 1, [.ints .i64 1 [a]]⟩, some ⟨false, 1, [.ints .i64 1 [b]]⟩]
  | _, _ => none
theorem ok11 : EntryOK Try.prog 11 F11 := by
  refine EntryOK.of_fn (mkS_nil _) follows_ok Try.func11 (by kernel_rfl) (by kernel_rfl) ?_
  intro args h k out hF
  unfold F11 at hF
  split at hF
  · exact ⟨_, _, hF, fun _ => ⟨noL, noL_ok, cf11⟩⟩
  · cases hF
theorem ok12 : EntryOK Try.prog 12 F12 := by
  refine EntryOK.of_fn (mkS_nil _) follows_ok Try.func12 (by kernel_rfl) (by kernel_rfl) ?_
  intro args h k out hF
  unfold F12 at hF
  split at hF
  · exact ⟨_, _, hF, fun _ => ⟨noL, noL_ok, cf12n⟩⟩
  · exact ⟨_, _, hF, fun _ => ⟨noL, noL_ok, cf12 ..⟩⟩
  · cases hF
theorem ok16 : EntryOK Try.prog 16 F16 := by
  refine EntryOK.of_fn (mkS_nil _) follows_ok Try.func16 (by kernel_rfl) (by kernel_rfl) ?_
  intro args h k out hF
  unfold F16 at hF
  split at hF
  · exact ⟨_, _, hF, fun _ => ⟨noL, noL_ok, cf16n⟩⟩
  · rename_i xs
    cases h0 : (xs.getD 8 0 == 0) with
    | true =>
      rw [h0, condT] at hF
      exact ⟨_, _, hF, fun _ => ⟨noL, noL_ok, (cf16 xs).trans (by rw [h0]; exact condT)⟩⟩
    | false =>
      rw [h0, condF] at hF
      obtain ⟨hb, hF2⟩ := bif_t hF
      obtain ⟨h1, h2⟩ := chk_iff.1 hb
      refine ⟨_, _, hF2, fun _ => ⟨noL, noL_ok, (cf16 xs).trans ?_⟩⟩
      rw [h0, condF]
      generalize xs.getD 8 0 = n at *
      have e : (n - 1).tmod 8 = (n - 1) % 8 := Int.tmod_eq_emod_of_nonneg (by omega)
      rw [swrap (x := n - 1) (by omega) (by omega), e, dec_t (show 0 ≤ (n - 1) % 8 by omega), dec_t (show (n - 1) % 8 < 8 by omega), Bool.and_self, condT, Nat.mul_one, Nat.zero_add, blt_t (show ((n - 1) % 8).toNat < 9 by omega), condT]
  · cases hF
theorem ok45 : EntryOK Try.prog 45 F45 := by
  refine EntryOK.of_fn (mkS_nil _) follows_ok Try.func45 (by kernel_rfl) (by kernel_rfl) ?_
  intro args h k out hF
  unfold F45 at hF
  split at hF
  · rename_i c a b
    refine ⟨_, _, hF, fun _ => ⟨noL, noL_ok, (cf45 c a b).trans ?_⟩⟩
    refine dc (fun e => ?_) (fun e => ?_)
    · rw [dec_t (show a ≤ c by omega)]; rfl
    · rw [dec_f (show ¬ a ≤ c by omega)]; rfl
  · cases hF
theorem S13_ok : SpecOK Try.prog S13 := mkS_cons ok16 (mkS_nil _)
theorem getD_set_ne {l : List Int} {i j : Nat} {c : Int} (h : i ≠ j) : (l.set i c).getD j 0 = l.getD j 0 := by
  rw [List.getD_eq_getElem?_getD, List.getD_eq_getElem?_getD, List.getElem?_set_ne h]
theorem ok13 : EntryOK Try.prog 13 F13 := by
  refine EntryOK.of_fn S13_ok follows_ok Try.func13 (by kernel_rfl) (by kernel_rfl) ?_
  intro args h k out hF
  unfold F13 at hF
  split at hF
  · exact ⟨_, _, hF, fun _ => ⟨noL, noL_ok, cf13n _⟩⟩
  · rename_i c xs
    obtain ⟨hb, hF2⟩ := bif_t hF
    obtain ⟨h1, h2⟩ := chk_iff.1 hb
    have e0 : (xs.getD 8 0).tmod 8 = xs.getD 8 0 % 8 := Int.tmod_eq_emod_of_nonneg h1
    have e1 : (xs.set (xs.getD 8 0 % 8).toNat c).getD 8 0 = xs.getD 8 0 := getD_set_ne (by omega)
    have cf := cf13 xs c
    simp only [e0, dec_t (show 0 ≤ xs.getD 8 0 % 8 by omega), dec_t (show xs.getD 8 0 % 8 < 8 by omega), Bool.and_self, condT, Nat.mul_one, Nat.zero_add, blt_t (show (xs.getD 8 0 % 8).toNat < 9 by omega), e1, swrap (x := xs.getD 8 0 + 1) (by omega) (by omega)] at cf
    unfold lowB at hF2
    by_cases c1 : c < 0
    · rw [dec_t c1, Bool.true_or, condT] at hF2
      refine ⟨_, _, hF2, fun _ => ⟨noL, noL_ok, cf.trans ?_⟩⟩
      refine bc (fun _ => by rw [dec_t c1]; exact condT) (fun h0 => ?_)
      have : xs.getD 8 0 ≠ 0 := by simpa using h0
      exact chk_if ⟨by omega, h2⟩ (by rw [dec_t c1]; exact condT)
    · rw [dec_f c1, Bool.false_or] at hF2
      rw [dec_f c1] at cf
      cases h0 : (xs.getD 8 0 == 0) with
      | true =>
        rw [h0, Bool.not_true, Bool.false_and, condF] at hF2
        refine ⟨_, _, hF2, fun _ => ⟨noL, noL_ok, cf.trans ?_⟩⟩
        rw [h0, condT]; exact condF
      | false =>
        have : xs.getD 8 0 ≠ 0 := by simpa using h0
        rw [h0, Bool.not_false, Bool.true_and] at hF2
        rw [h0, condF, chk_t ⟨by omega, h2⟩, condT, condF] at cf
        by_cases c2 : c < xs.getD ((xs.getD 8 0 - 1) % 8).toNat 0
        · rw [dec_t c2, condT] at hF2 cf
          exact ⟨_, _, hF2, fun _ => ⟨noL, noL_ok, cf⟩⟩
        · rw [dec_f c2, condF] at hF2 cf
          exact ⟨_, _, hF2, fun _ => ⟨noL, noL_ok, cf⟩⟩
  · cases hF
end Go.Proofs.Ytpidmcpnkfgcjaa.VC
