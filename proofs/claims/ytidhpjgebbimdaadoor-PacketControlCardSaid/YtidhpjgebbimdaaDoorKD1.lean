/- PacketControl: known; the law: closed forms. -/
import Derived.Test.YtidhpjgebbimdaaDoorKC9
namespace Go.Proofs.YtidhpjgebbimdaaDoor.VC
open Go Go.Proofs

theorem SPuX_ok : SpecOK Tryd.prog SPuX := mkS_cons okPut (mkS_nil _)
theorem loopOKEnX : LoopOK Tryd.prog Tryd.f9.ntmps 0 (loopOf Tryd.f9 0) liveEnX LEnXf := by
  refine LoopOK.of_rounds SPuX_ok follows_ok (L := noL) noL_ok ?_
  intro vs h k out hk
  unfold LEnXf at hk
  split at hk
  · exact ⟨_, _, _, hk, fun _ => ⟨5, pEnXL _⟩⟩
  · cases hk
theorem loopsEnX : LoopsOK Tryd.prog LEnX Tryd.f9.ntmps 0 (bodyOf Tryd.f9) := loops_one rfl (by kernel_rfl) loopOKEnX
theorem loopOKCtX : LoopOK Tryd.prog Tryd.f5.ntmps 0 (loopOf Tryd.f5 0) liveCt LCtXf := by
  refine LoopOK.of_rounds SCt_ok follows_ok (L := noL) noL_ok ?_
  intro vs h k out hk
  unfold LCtXf at hk
  split at hk
  · exact ⟨_, _, _, hk, fun _ => ⟨6, pCtXL _⟩⟩
  · cases hk
theorem loopsCtX : LoopsOK Tryd.prog LCtX Tryd.f5.ntmps 0 (bodyOf Tryd.f5) := loops_one rfl (by kernel_rfl) loopOKCtX
def FEnX : FSpec := fun args h k => match args, h with
  | [.agg ⟨[.int .u8 3, .int .u8 4, .int .u8 4, .int .u8 16, .int .i8 0, .int .i8 0, .int .u32 0, .int .u32 0, .int .u8 0, .int .u8 0, .int .u8 0, .int .u8 0, .int .u64 0, .int .u64 0, .int .u64 0, .int .u64 0]⟩], [] =>
    k (.tuple #[sl 0 48 1, w63 0]) [oU 48 l48]
  | _, _ => none
theorem okEnX : EntryOK Tryd.prog 9 FEnX := by
  refine EntryOK.of_paths (fn := Tryd.f9) follows_ok Tryd.func9 (by kernel_rfl) (by kernel_rfl) ?_
  intro args h k out hF
  unfold FEnX at hF
  split at hF
  · exact ⟨_, _, hF, fun _ => ⟨_, LEnX, SPuX_ok.calm _, loopsEnX, pEnX⟩⟩
  · cases hF
def FCtX : FSpec := fun args h k => match args, h with
  | [.agg ⟨[.int .u8 4, .int .u8 2, .bool true, .bool false, .bool false, .int .u16 0, .int .u16 0, .int .u16 0, .int .u16 0, .slice none 0 0]⟩], [] =>
    k (.tuple #[sl 0 12 1, w63 0]) [oU 12 [38, 130, 0, 0, 0, 0, 0, 0, 0, 0, 0, 0]]
  | _, _ => none
theorem okCtX : EntryOK Tryd.prog 5 FCtX := by
  refine EntryOK.of_paths (fn := Tryd.f5) follows_ok Tryd.func5 (by kernel_rfl) (by kernel_rfl) ?_
  intro args h k out hF
  unfold FCtX at hF
  split at hF
  · exact ⟨_, _, hF, fun _ => ⟨_, LCtX, SCt_ok, loopsCtX, pCtX⟩⟩
  · cases hF
def SKnX : Spec := mkS [(9, false, FEnX), (5, false, FCtX)]
--CF cfKnX . :: fnK Tryd.prog SKnX noL Tryd.f4 [] []
theorem cfKnX  : fnK Tryd.prog SKnX noL Tryd.f4 [] [] =
     (some (Res.ret (Value.bool true) [])) := by kernel_rfl
--CFEND
def FKnX : FSpec := fun args h k => match args, h with
  | [], [] => k (.bool true) []
  | _, _ => none
theorem okKnX : EntryOK Tryd.prog 4 FKnX := by
  refine EntryOK.of_paths (fn := Tryd.f4) follows_ok Tryd.func4 (by kernel_rfl) (by kernel_rfl) ?_
  intro args h k out hF
  unfold FKnX at hF
  split at hF
  · exact ⟨_, _, hF, fun _ => ⟨SKnX, noL, mkS_cons okEnX (mkS_cons okCtX (mkS_nil _)), noL_ok, cfKnX⟩⟩
  · cases hF
noncomputable def kap (n N : Nat) : Bool := chk (n = N)
def ctIf (b : Bool) (t : Ct) : Ct := bif b then t else ct0
def natIf (b : Bool) (n : Nat) : Nat := bif b then n else 0
def intIf (b : Bool) (x y : Int) : Int := bif b then x else y
def lstIf (b : Bool) (l : List Int) : List Int := bif b then l else []
noncomputable def FDcB (t : Ct) (d : Nat) (ys : List Int) : FSpec := fun args h k => match args, h with
  | [.slice (some ⟨0, 0, none⟩) n _], [some ⟨false, 1, [.ints .u8 N xs]⟩] =>
    bif chk (N = up4 (12 + d) ∧ (n = N ∨ n + 1 = N) ∧ xs = encC t d ys ∧ CtR t ∧ ctOK t d ∧ ys.length = d) then
      k (.tuple #[ctv (ctIf (kap n N) t) (sl 1 (natIf (kap n N) d) 2), w63 (intIf (kap n N) (up4 (12 + d) : Nat) 0), w63 (intIf (kap n N) 0 4)]) [rU N xs, oU (natIf (kap n N) d) (lstIf (kap n N) ys)] else none
  | _, _ => none
theorem okDcB (t : Ct) (d : Nat) (ys : List Int) : EntryOK Tryd.prog 7 (FDcB t d ys) := by
  intro args h k out hF
  unfold FDcB at hF
  split at hF
  · rename_i n c N xs
    obtain ⟨hb, hF2⟩ := bif_t hF
    obtain ⟨h1, h2, h3, h4, h5, h6⟩ := chk_iff.1 hb
    by_cases hn : n = N
    · have e : kap n N = true := chk_t hn
      rw [e] at hF2
      exact okDcK t d ys _ _ k out (go_t (chk_t ⟨by omega, hn.symm, h3, h4, h5, h6⟩) hF2)
    · have e : kap n N = false := chk_f hn
      rw [e] at hF2
      refine ⟨_, _, hF2, ?_⟩
      obtain ⟨v, h', hv, hc⟩ := okDcS t d ys [.slice (some ⟨0, 0, none⟩) n c] [rU N xs] (fun v h => some (.ret v h)) _ (go_t (chk_t ⟨by omega, by omega, h3, h4, h5, h6⟩) rfl)
      simp only [Option.some.injEq, Res.ret.injEq] at hv
      obtain ⟨rfl, rfl⟩ := hv
      intro ι base w args' hr ha
      refine (hc ι base w args' hr ha).mono fun v' w' ⟨ι', q⟩ => ⟨ι', q.le, q.new, HR_empty q.hr segsOK_none cell_none, ?_, q.fr, fun b hb => q.mo b (mods_empty q.hr hb)⟩
      obtain ⟨cs', rfl, a1, a2⟩ := q.vr.tuple_inv
      refine .tuple a1 fun i u u' x y => ?_
      match i with
      | 0 =>
        simp at x
        subst x
        obtain ⟨ds', rfl, b1, b2⟩ := (a2 0 _ u' rfl y).agg_inv
        refine .agg b1 fun j z z' p p' => ?_
        match j with
        | 9 =>
          simp at p
          subst p
          exact (b2 9 _ z' rfl p').nilAt
        | 0 => exact b2 0 z z' p p'
        | 1 => exact b2 1 z z' p p'
        | 2 => exact b2 2 z z' p p'
        | 3 => exact b2 3 z z' p p'
        | 4 => exact b2 4 z z' p p'
        | 5 => exact b2 5 z z' p p'
        | 6 => exact b2 6 z z' p p'
        | 7 => exact b2 7 z z' p p'
        | 8 => exact b2 8 z z' p p'
        | j + 10 => simp at p
      | i + 1 => exact a2 (i + 1) u u' x y
  · cases hF
noncomputable def S3K (t : Ct) (n : Nat) (xs : List Int) : Spec := mkS [(4, false, FKnX), (5, false, FCt), (6, false, FCt), (7, false, FDcB t n xs), (8, false, FSc t)]
noncomputable def S3R : Spec := mkS [(4, false, FKnX), (5, false, FCtE), (6, false, FCtE)]
--CP p3N (t : Ct) (n : Nat) (xs : List Int) :: fnK Tryd.prog (S3R.on [(16, true)]) noL Tryd.f3 [ctv t (sl 0 n 2)] [rU n xs]
theorem p3N (t : Ct) (n : Nat) (xs : List Int)
    (h1 : (↑n : Int) > (1000 : Int) := by first | omega | assumption | rfl) : fnK Tryd.prog (S3R.on [(16, true)]) noL Tryd.f3 [ctv t (sl 0 n 2)] [rU n xs] =
     (some (Res.ret (Value.bool true) [some (Blk.mk false (1 : Nat) [Seg.ints IntKind.u8 n xs])])) :=
  Eq.trans (by kernel_rfl) (go_t (dec_t h1) rfl)
--CFEND
--CP p3R (t : Ct) (n : Nat) (xs : List Int) :: fnK Tryd.prog (S3R.on [(16, false)]) noL Tryd.f3 [ctv t (sl 0 n 2)] [rU n xs]
theorem p3R (t : Ct) (n : Nat) (xs : List Int)
    (h1 : ¬(↑n : Int) > (1000 : Int) := by first | omega | assumption | rfl)
    (h2 : n = n ∧ n ≤ (1000000 : Nat) ∧ ¬ctOK t n := by first | omega | assumption | rfl | ((repeat' with_reducible apply And.intro) <;> first | rfl | assumption | omega)) : fnK Tryd.prog (S3R.on [(16, false)]) noL Tryd.f3 [ctv t (sl 0 n 2)] [rU n xs] =
     (some (Res.ret (Value.bool true) [some (Blk.mk false (1 : Nat) [Seg.ints IntKind.u8 n xs])])) :=
  Eq.trans (by kernel_rfl) (go_f (dec_f h1) (go_t (chk_t h2) (go_t (chk_t h2) rfl)))
--CFEND
--CP p3K (t : Ct) (n : Nat) (xs : List Int) :: fnK Tryd.prog ((S3K t n xs).on [(16, false), (33, false), (60, true), (66, true), (71, true), (75, true)]) noL Tryd.f3 [ctv t (sl 0 n 2)] [rU n xs]
theorem p3K (t : Ct) (n : Nat) (xs : List Int)
    (w1 : -9223372036854775808 ≤ (↑(up4 ((12 : Nat) + n)) : Int) - (1 : Int) ∧ (↑(up4 ((12 : Nat) + n)) : Int) - (1 : Int) ≤ 9223372036854775807 := by omega)
    (h1 : ¬(↑n : Int) > (1000 : Int) := by first | omega | assumption | rfl)
    (h2 : n = n ∧ ctOK t n := by first | omega | assumption | rfl | ((repeat' with_reducible apply And.intro) <;> first | rfl | assumption | omega))
    (h3 : up4 ((12 : Nat) + n) ≤ up4 ((12 : Nat) + n) := by first | omega | assumption | rfl)
    (h4 : up4 ((12 : Nat) + n) ≤ (4611686018427387904 : Nat) := by first | omega | assumption | rfl)
    (h5 : ((strOf (List.take (up4 ((12 : Nat) + n)) (encC t n xs))).toList == (strOf (List.take (up4 ((12 : Nat) + n)) (encC t n xs))).toList) = true := by first | omega | assumption | rfl)
    (h6 : up4 ((12 : Nat) + n) = up4 ((12 : Nat) + n) ∧ (up4 ((12 : Nat) + n) = up4 ((12 : Nat) + n) ∨ up4 ((12 : Nat) + n) + (1 : Nat) = up4 ((12 : Nat) + n)) ∧ encC t n xs = encC t n xs ∧ CtR t ∧ ctOK t n ∧ xs.length = n := by first | omega | assumption | rfl | ((repeat' with_reducible apply And.intro) <;> first | rfl | assumption | omega))
    (h7 : (0 : Int) ≤ if (↑(up4 ((12 : Nat) + n)) : Int) - (1 : Int) > (0 : Int) then (↑(up4 ((12 : Nat) + n)) : Int) - (1 : Int) else (0 : Int) := by first | omega | assumption | rfl)
    (h8 : (if (↑(up4 ((12 : Nat) + n)) : Int) - (1 : Int) > (0 : Int) then (↑(up4 ((12 : Nat) + n)) : Int) - (1 : Int) else (0 : Int)) ≤ (↑(up4 ((12 : Nat) + n)) : Int) := by first | omega | assumption | rfl)
    (h9 : up4 ((12 : Nat) + n) = up4 ((12 : Nat) + n) ∧ (((if (↑(up4 ((12 : Nat) + n)) : Int) - (1 : Int) > (0 : Int) then (↑(up4 ((12 : Nat) + n)) : Int) - (1 : Int) else (0 : Int)) - (0 : Int)).toNat = up4 ((12 : Nat) + n) ∨ ((if (↑(up4 ((12 : Nat) + n)) : Int) - (1 : Int) > (0 : Int) then (↑(up4 ((12 : Nat) + n)) : Int) - (1 : Int) else (0 : Int)) - (0 : Int)).toNat + (1 : Nat) = up4 ((12 : Nat) + n)) ∧ encC t n xs = encC t n xs ∧ CtR t ∧ ctOK t n ∧ xs.length = n := by first | omega | assumption | rfl | ((repeat' with_reducible apply And.intro) <;> first | rfl | assumption | omega))
    (h10 : intIf (kap (up4 ((12 : Nat) + n)) (up4 ((12 : Nat) + n))) (0 : Int) (4 : Int) = (0 : Int) := by first | omega | assumption | rfl)
    (h11 : intIf (kap (up4 ((12 : Nat) + n)) (up4 ((12 : Nat) + n))) (↑(up4 ((12 : Nat) + n)) : Int) (0 : Int) = (↑(up4 ((12 : Nat) + n)) : Int) := by first | omega | assumption | rfl)
    (h12 : (intIf (kap (up4 ((12 : Nat) + n)) (up4 ((12 : Nat) + n))) (↑(up4 ((12 : Nat) + n)) : Int) (0 : Int)).tmod (4 : Int) = (0 : Int) := by first | omega | assumption | rfl)
    (h13 : intIf (kap ((if (↑(up4 ((12 : Nat) + n)) : Int) - (1 : Int) > (0 : Int) then (↑(up4 ((12 : Nat) + n)) : Int) - (1 : Int) else (0 : Int)) - (0 : Int)).toNat (up4 ((12 : Nat) + n))) (0 : Int) (4 : Int) = (4 : Int) := by first | omega | assumption | rfl)
    (h14 : Value.agg #[Value.int IntKind.u8 t.v, Value.int IntKind.u8 t.op, Value.bool t.r, Value.bool t.e, Value.bool t.m, Value.int IntKind.u16 t.sq, Value.int IntKind.u16 t.st, Value.int IntKind.u16 t.ac, Value.int IntKind.u16 t.oc, Value.slice (some (Addr.mk (0 : Nat) (0 : Nat) none)) n (2 : Nat)] = ctv t (sl (0 : Nat) n (2 : Nat)) ∧ Value.agg #[Value.int IntKind.u8 (ctIf (kap (up4 ((12 : Nat) + n)) (up4 ((12 : Nat) + n))) t).v, Value.int IntKind.u8 (ctIf (kap (up4 ((12 : Nat) + n)) (up4 ((12 : Nat) + n))) t).op, Value.bool (ctIf (kap (up4 ((12 : Nat) + n)) (up4 ((12 : Nat) + n))) t).r, Value.bool (ctIf (kap (up4 ((12 : Nat) + n)) (up4 ((12 : Nat) + n))) t).e, Value.bool (ctIf (kap (up4 ((12 : Nat) + n)) (up4 ((12 : Nat) + n))) t).m, Value.int IntKind.u16 ((((([(0 : Int), (0 : Int), (0 : Int), (0 : Int)].set ((3 : Nat) - [Value.bool (ctIf (kap (up4 ((12 : Nat) + n)) (up4 ((12 : Nat) + n))) t).r, Value.bool (ctIf (kap (up4 ((12 : Nat) + n)) (up4 ((12 : Nat) + n))) t).e, Value.bool (ctIf (kap (up4 ((12 : Nat) + n)) (up4 ((12 : Nat) + n))) t).m].length) (ctIf (kap (up4 ((12 : Nat) + n)) (up4 ((12 : Nat) + n))) t).sq).set ((4 : Nat) - [Value.bool (ctIf (kap (up4 ((12 : Nat) + n)) (up4 ((12 : Nat) + n))) t).r, Value.bool (ctIf (kap (up4 ((12 : Nat) + n)) (up4 ((12 : Nat) + n))) t).e, Value.bool (ctIf (kap (up4 ((12 : Nat) + n)) (up4 ((12 : Nat) + n))) t).m].length) (ctIf (kap (up4 ((12 : Nat) + n)) (up4 ((12 : Nat) + n))) t).st).set ((5 : Nat) - [Value.bool (ctIf (kap (up4 ((12 : Nat) + n)) (up4 ((12 : Nat) + n))) t).r, Value.bool (ctIf (kap (up4 ((12 : Nat) + n)) (up4 ((12 : Nat) + n))) t).e, Value.bool (ctIf (kap (up4 ((12 : Nat) + n)) (up4 ((12 : Nat) + n))) t).m].length) (ctIf (kap (up4 ((12 : Nat) + n)) (up4 ((12 : Nat) + n))) t).ac).set ((6 : Nat) - [Value.bool (ctIf (kap (up4 ((12 : Nat) + n)) (up4 ((12 : Nat) + n))) t).r, Value.bool (ctIf (kap (up4 ((12 : Nat) + n)) (up4 ((12 : Nat) + n))) t).e, Value.bool (ctIf (kap (up4 ((12 : Nat) + n)) (up4 ((12 : Nat) + n))) t).m].length) (ctIf (kap (up4 ((12 : Nat) + n)) (up4 ((12 : Nat) + n))) t).oc).getD ((3 : Nat) - [Value.bool (ctIf (kap (up4 ((12 : Nat) + n)) (up4 ((12 : Nat) + n))) t).r, Value.bool (ctIf (kap (up4 ((12 : Nat) + n)) (up4 ((12 : Nat) + n))) t).e, Value.bool (ctIf (kap (up4 ((12 : Nat) + n)) (up4 ((12 : Nat) + n))) t).m].length) (0 : Int)), Value.int IntKind.u16 ((((([(0 : Int), (0 : Int), (0 : Int), (0 : Int)].set ((3 : Nat) - [Value.bool (ctIf (kap (up4 ((12 : Nat) + n)) (up4 ((12 : Nat) + n))) t).r, Value.bool (ctIf (kap (up4 ((12 : Nat) + n)) (up4 ((12 : Nat) + n))) t).e, Value.bool (ctIf (kap (up4 ((12 : Nat) + n)) (up4 ((12 : Nat) + n))) t).m].length) (ctIf (kap (up4 ((12 : Nat) + n)) (up4 ((12 : Nat) + n))) t).sq).set ((4 : Nat) - [Value.bool (ctIf (kap (up4 ((12 : Nat) + n)) (up4 ((12 : Nat) + n))) t).r, Value.bool (ctIf (kap (up4 ((12 : Nat) + n)) (up4 ((12 : Nat) + n))) t).e, Value.bool (ctIf (kap (up4 ((12 : Nat) + n)) (up4 ((12 : Nat) + n))) t).m].length) (ctIf (kap (up4 ((12 : Nat) + n)) (up4 ((12 : Nat) + n))) t).st).set ((5 : Nat) - [Value.bool (ctIf (kap (up4 ((12 : Nat) + n)) (up4 ((12 : Nat) + n))) t).r, Value.bool (ctIf (kap (up4 ((12 : Nat) + n)) (up4 ((12 : Nat) + n))) t).e, Value.bool (ctIf (kap (up4 ((12 : Nat) + n)) (up4 ((12 : Nat) + n))) t).m].length) (ctIf (kap (up4 ((12 : Nat) + n)) (up4 ((12 : Nat) + n))) t).ac).set ((6 : Nat) - [Value.bool (ctIf (kap (up4 ((12 : Nat) + n)) (up4 ((12 : Nat) + n))) t).r, Value.bool (ctIf (kap (up4 ((12 : Nat) + n)) (up4 ((12 : Nat) + n))) t).e, Value.bool (ctIf (kap (up4 ((12 : Nat) + n)) (up4 ((12 : Nat) + n))) t).m].length) (ctIf (kap (up4 ((12 : Nat) + n)) (up4 ((12 : Nat) + n))) t).oc).getD ((4 : Nat) - [Value.bool (ctIf (kap (up4 ((12 : Nat) + n)) (up4 ((12 : Nat) + n))) t).r, Value.bool (ctIf (kap (up4 ((12 : Nat) + n)) (up4 ((12 : Nat) + n))) t).e, Value.bool (ctIf (kap (up4 ((12 : Nat) + n)) (up4 ((12 : Nat) + n))) t).m].length) (0 : Int)), Value.int IntKind.u16 ((((([(0 : Int), (0 : Int), (0 : Int), (0 : Int)].set ((3 : Nat) - [Value.bool (ctIf (kap (up4 ((12 : Nat) + n)) (up4 ((12 : Nat) + n))) t).r, Value.bool (ctIf (kap (up4 ((12 : Nat) + n)) (up4 ((12 : Nat) + n))) t).e, Value.bool (ctIf (kap (up4 ((12 : Nat) + n)) (up4 ((12 : Nat) + n))) t).m].length) (ctIf (kap (up4 ((12 : Nat) + n)) (up4 ((12 : Nat) + n))) t).sq).set ((4 : Nat) - [Value.bool (ctIf (kap (up4 ((12 : Nat) + n)) (up4 ((12 : Nat) + n))) t).r, Value.bool (ctIf (kap (up4 ((12 : Nat) + n)) (up4 ((12 : Nat) + n))) t).e, Value.bool (ctIf (kap (up4 ((12 : Nat) + n)) (up4 ((12 : Nat) + n))) t).m].length) (ctIf (kap (up4 ((12 : Nat) + n)) (up4 ((12 : Nat) + n))) t).st).set ((5 : Nat) - [Value.bool (ctIf (kap (up4 ((12 : Nat) + n)) (up4 ((12 : Nat) + n))) t).r, Value.bool (ctIf (kap (up4 ((12 : Nat) + n)) (up4 ((12 : Nat) + n))) t).e, Value.bool (ctIf (kap (up4 ((12 : Nat) + n)) (up4 ((12 : Nat) + n))) t).m].length) (ctIf (kap (up4 ((12 : Nat) + n)) (up4 ((12 : Nat) + n))) t).ac).set ((6 : Nat) - [Value.bool (ctIf (kap (up4 ((12 : Nat) + n)) (up4 ((12 : Nat) + n))) t).r, Value.bool (ctIf (kap (up4 ((12 : Nat) + n)) (up4 ((12 : Nat) + n))) t).e, Value.bool (ctIf (kap (up4 ((12 : Nat) + n)) (up4 ((12 : Nat) + n))) t).m].length) (ctIf (kap (up4 ((12 : Nat) + n)) (up4 ((12 : Nat) + n))) t).oc).getD ((5 : Nat) - [Value.bool (ctIf (kap (up4 ((12 : Nat) + n)) (up4 ((12 : Nat) + n))) t).r, Value.bool (ctIf (kap (up4 ((12 : Nat) + n)) (up4 ((12 : Nat) + n))) t).e, Value.bool (ctIf (kap (up4 ((12 : Nat) + n)) (up4 ((12 : Nat) + n))) t).m].length) (0 : Int)), Value.int IntKind.u16 ((((([(0 : Int), (0 : Int), (0 : Int), (0 : Int)].set ((3 : Nat) - [Value.bool (ctIf (kap (up4 ((12 : Nat) + n)) (up4 ((12 : Nat) + n))) t).r, Value.bool (ctIf (kap (up4 ((12 : Nat) + n)) (up4 ((12 : Nat) + n))) t).e, Value.bool (ctIf (kap (up4 ((12 : Nat) + n)) (up4 ((12 : Nat) + n))) t).m].length) (ctIf (kap (up4 ((12 : Nat) + n)) (up4 ((12 : Nat) + n))) t).sq).set ((4 : Nat) - [Value.bool (ctIf (kap (up4 ((12 : Nat) + n)) (up4 ((12 : Nat) + n))) t).r, Value.bool (ctIf (kap (up4 ((12 : Nat) + n)) (up4 ((12 : Nat) + n))) t).e, Value.bool (ctIf (kap (up4 ((12 : Nat) + n)) (up4 ((12 : Nat) + n))) t).m].length) (ctIf (kap (up4 ((12 : Nat) + n)) (up4 ((12 : Nat) + n))) t).st).set ((5 : Nat) - [Value.bool (ctIf (kap (up4 ((12 : Nat) + n)) (up4 ((12 : Nat) + n))) t).r, Value.bool (ctIf (kap (up4 ((12 : Nat) + n)) (up4 ((12 : Nat) + n))) t).e, Value.bool (ctIf (kap (up4 ((12 : Nat) + n)) (up4 ((12 : Nat) + n))) t).m].length) (ctIf (kap (up4 ((12 : Nat) + n)) (up4 ((12 : Nat) + n))) t).ac).set ((6 : Nat) - [Value.bool (ctIf (kap (up4 ((12 : Nat) + n)) (up4 ((12 : Nat) + n))) t).r, Value.bool (ctIf (kap (up4 ((12 : Nat) + n)) (up4 ((12 : Nat) + n))) t).e, Value.bool (ctIf (kap (up4 ((12 : Nat) + n)) (up4 ((12 : Nat) + n))) t).m].length) (ctIf (kap (up4 ((12 : Nat) + n)) (up4 ((12 : Nat) + n))) t).oc).getD ((6 : Nat) - [Value.bool (ctIf (kap (up4 ((12 : Nat) + n)) (up4 ((12 : Nat) + n))) t).r, Value.bool (ctIf (kap (up4 ((12 : Nat) + n)) (up4 ((12 : Nat) + n))) t).e, Value.bool (ctIf (kap (up4 ((12 : Nat) + n)) (up4 ((12 : Nat) + n))) t).m].length) (0 : Int)), Value.slice (some (Addr.mk (1 : Nat) (0 : Nat) none)) (natIf (kap (up4 ((12 : Nat) + n)) (up4 ((12 : Nat) + n))) n) (2 : Nat)] = ctv t (sl (1 : Nat) n (2 : Nat)) ∧ n = natIf (kap (up4 ((12 : Nat) + n)) (up4 ((12 : Nat) + n))) n ∧ xs = lstIf (kap (up4 ((12 : Nat) + n)) (up4 ((12 : Nat) + n))) xs ∧ n ≤ (1000000 : Nat) := by first | omega | assumption | rfl | ((repeat' with_reducible apply And.intro) <;> first | rfl | assumption | omega)) : fnK Tryd.prog ((S3K t n xs).on [(16, false), (33, false), (60, true), (66, true), (71, true), (75, true)]) noL Tryd.f3 [ctv t (sl 0 n 2)] [rU n xs] =
     (some (Res.ret (Value.bool true) [some (Blk.mk false (1 : Nat) [Seg.ints IntKind.u8 n xs])])) :=
  Eq.trans (b :=
     bif decide ((↑n : Int) > (1000 : Int)) then none else bif chk (n = n ∧ ctOK t n) then bif chk (n = n ∧ ctOK t n) then bif (up4 ((12 : Nat) + n) * (1 : Nat)).ble (up4 ((12 : Nat) + n)) then bif (up4
     ((12 : Nat) + n)).ble (OfNat.ofNat (4611686018427387904 : Nat)) then bif (up4 ((12 : Nat) + n) * (1 : Nat)).ble (up4 ((12 : Nat) + n)) then bif (up4 ((12 : Nat) + n)).ble (OfNat.ofNat
     (4611686018427387904 : Nat)) then bif !(strOf (List.take (up4 ((12 : Nat) + n) * (1 : Nat)) (encC t n xs))).toList == (strOf (List.take (up4 ((12 : Nat) + n) * (1 : Nat)) (encC t n xs))).toList then
     none else bif chk (up4 ((12 : Nat) + n) = up4 ((12 : Nat) + n) ∧ (up4 ((12 : Nat) + n) = up4 ((12 : Nat) + n) ∨ up4 ((12 : Nat) + n) + (1 : Nat) = up4 ((12 : Nat) + n)) ∧ encC t n xs = encC t n xs ∧
     CtR t ∧ ctOK t n ∧ xs.length = n) then bif decide ((0 : Int) ≤ if IntKind.i64.wrap ((↑(up4 ((12 : Nat) + n)) : Int) - (1 : Int)) > (0 : Int) then IntKind.i64.wrap ((↑(up4 ((12 : Nat) + n)) : Int) - (1
     : Int)) else (0 : Int)) && decide ((if IntKind.i64.wrap ((↑(up4 ((12 : Nat) + n)) : Int) - (1 : Int)) > (0 : Int) then IntKind.i64.wrap ((↑(up4 ((12 : Nat) + n)) : Int) - (1 : Int)) else (0 : Int)) ≤
     (↑(up4 ((12 : Nat) + n)) : Int)) then bif chk (up4 ((12 : Nat) + n) = up4 ((12 : Nat) + n) ∧ (((if IntKind.i64.wrap ((↑(up4 ((12 : Nat) + n)) : Int) - (1 : Int)) > (0 : Int) then IntKind.i64.wrap
     ((↑(up4 ((12 : Nat) + n)) : Int) - (1 : Int)) else (0 : Int)) - (0 : Int)).toNat = up4 ((12 : Nat) + n) ∨ ((if IntKind.i64.wrap ((↑(up4 ((12 : Nat) + n)) : Int) - (1 : Int)) > (0 : Int) then
     IntKind.i64.wrap ((↑(up4 ((12 : Nat) + n)) : Int) - (1 : Int)) else (0 : Int)) - (0 : Int)).toNat + (1 : Nat) = up4 ((12 : Nat) + n)) ∧ encC t n xs = encC t n xs ∧ CtR t ∧ ctOK t n ∧ xs.length = n)
     then bif intIf (kap (up4 ((12 : Nat) + n)) (up4 ((12 : Nat) + n))) (0 : Int) (4 : Int) == (0 : Int) then bif intIf (kap (up4 ((12 : Nat) + n)) (up4 ((12 : Nat) + n))) (↑(up4 ((12 : Nat) + n)) : Int)
     (0 : Int) == (↑(up4 ((12 : Nat) + n)) : Int) then bif (intIf (kap (up4 ((12 : Nat) + n)) (up4 ((12 : Nat) + n))) (↑(up4 ((12 : Nat) + n)) : Int) (0 : Int)).tmod (4 : Int) == (0 : Int) then bif intIf
     (kap ((if IntKind.i64.wrap ((↑(up4 ((12 : Nat) + n)) : Int) - (1 : Int)) > (0 : Int) then IntKind.i64.wrap ((↑(up4 ((12 : Nat) + n)) : Int) - (1 : Int)) else (0 : Int)) - (0 : Int)).toNat (up4 ((12 :
     Nat) + n))) (0 : Int) (4 : Int) == (4 : Int) then bif chk (Value.agg #[Value.int IntKind.u8 t.v, Value.int IntKind.u8 t.op, Value.bool t.r, Value.bool t.e, Value.bool t.m, Value.int IntKind.u16 t.sq,
     Value.int IntKind.u16 t.st, Value.int IntKind.u16 t.ac, Value.int IntKind.u16 t.oc, Value.slice (some (Addr.mk (0 : Nat) (0 : Nat) none)) n (2 : Nat)] = ctv t (sl (0 : Nat) n (2 : Nat)) ∧ Value.agg
     #[Value.int IntKind.u8 (ctIf (kap (up4 ((12 : Nat) + n)) (up4 ((12 : Nat) + n))) t).v, Value.int IntKind.u8 (ctIf (kap (up4 ((12 : Nat) + n)) (up4 ((12 : Nat) + n))) t).op, Value.bool (ctIf (kap (up4
     ((12 : Nat) + n)) (up4 ((12 : Nat) + n))) t).r, Value.bool (ctIf (kap (up4 ((12 : Nat) + n)) (up4 ((12 : Nat) + n))) t).e, Value.bool (ctIf (kap (up4 ((12 : Nat) + n)) (up4 ((12 : Nat) + n))) t).m,
     Value.int IntKind.u16 ((((([(0 : Int), (0 : Int), (0 : Int), (0 : Int)].set ((3 : Nat) - [Value.bool (ctIf (kap (up4 ((12 : Nat) + n)) (up4 ((12 : Nat) + n))) t).r, Value.bool (ctIf (kap (up4 ((12 :
     Nat) + n)) (up4 ((12 : Nat) + n))) t).e, Value.bool (ctIf (kap (up4 ((12 : Nat) + n)) (up4 ((12 : Nat) + n))) t).m].length) (ctIf (kap (up4 ((12 : Nat) + n)) (up4 ((12 : Nat) + n))) t).sq).set ((4 :
     Nat) - [Value.bool (ctIf (kap (up4 ((12 : Nat) + n)) (up4 ((12 : Nat) + n))) t).r, Value.bool (ctIf (kap (up4 ((12 : Nat) + n)) (up4 ((12 : Nat) + n))) t).e, Value.bool (ctIf (kap (up4 ((12 : Nat) +
     n)) (up4 ((12 : Nat) + n))) t).m].length) (ctIf (kap (up4 ((12 : Nat) + n)) (up4 ((12 : Nat) + n))) t).st).set ((5 : Nat) - [Value.bool (ctIf (kap (up4 ((12 : Nat) + n)) (up4 ((12 : Nat) + n))) t).r,
     Value.bool (ctIf (kap (up4 ((12 : Nat) + n)) (up4 ((12 : Nat) + n))) t).e, Value.bool (ctIf (kap (up4 ((12 : Nat) + n)) (up4 ((12 : Nat) + n))) t).m].length) (ctIf (kap (up4 ((12 : Nat) + n)) (up4
     ((12 : Nat) + n))) t).ac).set ((6 : Nat) - [Value.bool (ctIf (kap (up4 ((12 : Nat) + n)) (up4 ((12 : Nat) + n))) t).r, Value.bool (ctIf (kap (up4 ((12 : Nat) + n)) (up4 ((12 : Nat) + n))) t).e,
     Value.bool (ctIf (kap (up4 ((12 : Nat) + n)) (up4 ((12 : Nat) + n))) t).m].length) (ctIf (kap (up4 ((12 : Nat) + n)) (up4 ((12 : Nat) + n))) t).oc).getD ((3 : Nat) - [Value.bool (ctIf (kap (up4 ((12 :
     Nat) + n)) (up4 ((12 : Nat) + n))) t).r, Value.bool (ctIf (kap (up4 ((12 : Nat) + n)) (up4 ((12 : Nat) + n))) t).e, Value.bool (ctIf (kap (up4 ((12 : Nat) + n)) (up4 ((12 : Nat) + n))) t).m].length)
     (0 : Int)), Value.int IntKind.u16 ((((([(0 : Int), (0 : Int), (0 : Int), (0 : Int)].set ((3 : Nat) - [Value.bool (ctIf (kap (up4 ((12 : Nat) + n)) (up4 ((12 : Nat) + n))) t).r, Value.bool (ctIf (kap
     (up4 ((12 : Nat) + n)) (up4 ((12 : Nat) + n))) t).e, Value.bool (ctIf (kap (up4 ((12 : Nat) + n)) (up4 ((12 : Nat) + n))) t).m].length) (ctIf (kap (up4 ((12 : Nat) + n)) (up4 ((12 : Nat) + n)))
     t).sq).set ((4 : Nat) - [Value.bool (ctIf (kap (up4 ((12 : Nat) + n)) (up4 ((12 : Nat) + n))) t).r, Value.bool (ctIf (kap (up4 ((12 : Nat) + n)) (up4 ((12 : Nat) + n))) t).e, Value.bool (ctIf (kap
     (up4 ((12 : Nat) + n)) (up4 ((12 : Nat) + n))) t).m].length) (ctIf (kap (up4 ((12 : Nat) + n)) (up4 ((12 : Nat) + n))) t).st).set ((5 : Nat) - [Value.bool (ctIf (kap (up4 ((12 : Nat) + n)) (up4 ((12 :
     Nat) + n))) t).r, Value.bool (ctIf (kap (up4 ((12 : Nat) + n)) (up4 ((12 : Nat) + n))) t).e, Value.bool (ctIf (kap (up4 ((12 : Nat) + n)) (up4 ((12 : Nat) + n))) t).m].length) (ctIf (kap (up4 ((12 :
     Nat) + n)) (up4 ((12 : Nat) + n))) t).ac).set ((6 : Nat) - [Value.bool (ctIf (kap (up4 ((12 : Nat) + n)) (up4 ((12 : Nat) + n))) t).r, Value.bool (ctIf (kap (up4 ((12 : Nat) + n)) (up4 ((12 : Nat) +
     n))) t).e, Value.bool (ctIf (kap (up4 ((12 : Nat) + n)) (up4 ((12 : Nat) + n))) t).m].length) (ctIf (kap (up4 ((12 : Nat) + n)) (up4 ((12 : Nat) + n))) t).oc).getD ((4 : Nat) - [Value.bool (ctIf (kap
     (up4 ((12 : Nat) + n)) (up4 ((12 : Nat) + n))) t).r, Value.bool (ctIf (kap (up4 ((12 : Nat) + n)) (up4 ((12 : Nat) + n))) t).e, Value.bool (ctIf (kap (up4 ((12 : Nat) + n)) (up4 ((12 : Nat) + n)))
     t).m].length) (0 : Int)), Value.int IntKind.u16 ((((([(0 : Int), (0 : Int), (0 : Int), (0 : Int)].set ((3 : Nat) - [Value.bool (ctIf (kap (up4 ((12 : Nat) + n)) (up4 ((12 : Nat) + n))) t).r,
     Value.bool (ctIf (kap (up4 ((12 : Nat) + n)) (up4 ((12 : Nat) + n))) t).e, Value.bool (ctIf (kap (up4 ((12 : Nat) + n)) (up4 ((12 : Nat) + n))) t).m].length) (ctIf (kap (up4 ((12 : Nat) + n)) (up4
     ((12 : Nat) + n))) t).sq).set ((4 : Nat) - [Value.bool (ctIf (kap (up4 ((12 : Nat) + n)) (up4 ((12 : Nat) + n))) t).r, Value.bool (ctIf (kap (up4 ((12 : Nat) + n)) (up4 ((12 : Nat) + n))) t).e,
     Value.bool (ctIf (kap (up4 ((12 : Nat) + n)) (up4 ((12 : Nat) + n))) t).m].length) (ctIf (kap (up4 ((12 : Nat) + n)) (up4 ((12 : Nat) + n))) t).st).set ((5 : Nat) - [Value.bool (ctIf (kap (up4 ((12 :
     Nat) + n)) (up4 ((12 : Nat) + n))) t).r, Value.bool (ctIf (kap (up4 ((12 : Nat) + n)) (up4 ((12 : Nat) + n))) t).e, Value.bool (ctIf (kap (up4 ((12 : Nat) + n)) (up4 ((12 : Nat) + n))) t).m].length)
     (ctIf (kap (up4 ((12 : Nat) + n)) (up4 ((12 : Nat) + n))) t).ac).set ((6 : Nat) - [Value.bool (ctIf (kap (up4 ((12 : Nat) + n)) (up4 ((12 : Nat) + n))) t).r, Value.bool (ctIf (kap (up4 ((12 : Nat) +
     n)) (up4 ((12 : Nat) + n))) t).e, Value.bool (ctIf (kap (up4 ((12 : Nat) + n)) (up4 ((12 : Nat) + n))) t).m].length) (ctIf (kap (up4 ((12 : Nat) + n)) (up4 ((12 : Nat) + n))) t).oc).getD ((5 : Nat) -
     [Value.bool (ctIf (kap (up4 ((12 : Nat) + n)) (up4 ((12 : Nat) + n))) t).r, Value.bool (ctIf (kap (up4 ((12 : Nat) + n)) (up4 ((12 : Nat) + n))) t).e, Value.bool (ctIf (kap (up4 ((12 : Nat) + n)) (up4
     ((12 : Nat) + n))) t).m].length) (0 : Int)), Value.int IntKind.u16 ((((([(0 : Int), (0 : Int), (0 : Int), (0 : Int)].set ((3 : Nat) - [Value.bool (ctIf (kap (up4 ((12 : Nat) + n)) (up4 ((12 : Nat) +
     n))) t).r, Value.bool (ctIf (kap (up4 ((12 : Nat) + n)) (up4 ((12 : Nat) + n))) t).e, Value.bool (ctIf (kap (up4 ((12 : Nat) + n)) (up4 ((12 : Nat) + n))) t).m].length) (ctIf (kap (up4 ((12 : Nat) +
     n)) (up4 ((12 : Nat) + n))) t).sq).set ((4 : Nat) - [Value.bool (ctIf (kap (up4 ((12 : Nat) + n)) (up4 ((12 : Nat) + n))) t).r, Value.bool (ctIf (kap (up4 ((12 : Nat) + n)) (up4 ((12 : Nat) + n)))
     t).e, Value.bool (ctIf (kap (up4 ((12 : Nat) + n)) (up4 ((12 : Nat) + n))) t).m].length) (ctIf (kap (up4 ((12 : Nat) + n)) (up4 ((12 : Nat) + n))) t).st).set ((5 : Nat) - [Value.bool (ctIf (kap (up4
     ((12 : Nat) + n)) (up4 ((12 : Nat) + n))) t).r, Value.bool (ctIf (kap (up4 ((12 : Nat) + n)) (up4 ((12 : Nat) + n))) t).e, Value.bool (ctIf (kap (up4 ((12 : Nat) + n)) (up4 ((12 : Nat) + n)))
     t).m].length) (ctIf (kap (up4 ((12 : Nat) + n)) (up4 ((12 : Nat) + n))) t).ac).set ((6 : Nat) - [Value.bool (ctIf (kap (up4 ((12 : Nat) + n)) (up4 ((12 : Nat) + n))) t).r, Value.bool (ctIf (kap (up4
     ((12 : Nat) + n)) (up4 ((12 : Nat) + n))) t).e, Value.bool (ctIf (kap (up4 ((12 : Nat) + n)) (up4 ((12 : Nat) + n))) t).m].length) (ctIf (kap (up4 ((12 : Nat) + n)) (up4 ((12 : Nat) + n))) t).oc).getD
     ((6 : Nat) - [Value.bool (ctIf (kap (up4 ((12 : Nat) + n)) (up4 ((12 : Nat) + n))) t).r, Value.bool (ctIf (kap (up4 ((12 : Nat) + n)) (up4 ((12 : Nat) + n))) t).e, Value.bool (ctIf (kap (up4 ((12 :
     Nat) + n)) (up4 ((12 : Nat) + n))) t).m].length) (0 : Int)), Value.slice (some (Addr.mk (1 : Nat) (0 : Nat) none)) (natIf (kap (up4 ((12 : Nat) + n)) (up4 ((12 : Nat) + n))) n) (2 : Nat)] = ctv t (sl
     (1 : Nat) n (2 : Nat)) ∧ n = natIf (kap (up4 ((12 : Nat) + n)) (up4 ((12 : Nat) + n))) n ∧ xs = lstIf (kap (up4 ((12 : Nat) + n)) (up4 ((12 : Nat) + n))) xs ∧ n ≤ (1000000 : Nat)) then some (Res.ret
     (Value.bool true) [some (Blk.mk false (1 : Nat) [Seg.ints IntKind.u8 n xs])]) else none else none else none else none else none else none else none else none else none else none else none else none
     else none else none) (by kernel_rfl) (by simp only [-eq_self, Nat.mul_one, swrap w1.1 w1.2]; exact (go_f (dec_f h1) (go_t (chk_t h2) (go_t (chk_t h2) (go_t (ble_t h3) (go_t (ble_t h4) (go_t (ble_t h3) (go_t (ble_t h4) (go_f (not_f h5) (go_t (chk_t h6) (go_t (and_t (dec_t h7) (dec_t h8)) (go_t (chk_t h9) (go_t (eqb_t h10) (go_t (eqb_t h11) (go_t (eqb_t h12) (go_t (eqb_t h13) (go_t (chk_t h14) rfl)))))))))))))))))
--CFEND
end Go.Proofs.YtidhpjgebbimdaaDoor.VC
