/- LoopHolds: the law. -/
import Derived.Test.YtfgehfnlkakioaaUX
import Derived.Test.YtfgehfnlkakioaaOX
namespace Go.Proofs.Ytfgehfnlkakioaa.VC
open Go Go.Proofs

abbrev r63 (n : Nat) (xs : List Int) : Option Blk := some ⟨false, 1, [.ints .i64 n xs]⟩
abbrev bl4 (R P Q F : Int) : Option Blk := some ⟨true, 4, [.ints .i64 1 [R], .ints .u64 2 [P, Q], .ints .i64 1 [F]]⟩
noncomputable def S11 : Spec := mkS [(52, false, F52), (53, false, F53), (55, false, F55), (57, false, F22)]
def live11 : List Nat := [2, 3, 6, 30, 31, 32]
--CF cf11r (x R P Q F : Int) (n : Nat) (xs : List Int) (i : Nat) (on : List Value → Heap → Out) (out : Exit → List Value → Heap → Out) :: roundK Try.prog S11 noL Try.f11.ntmps 1 (loopOf Try.f11 0) live11 [w63 x, pt 1, .bool false, sl 0 n 2, w63 n, w63 i] [r63 n xs, bl4 R P Q F] on out
theorem cf11r (x R P Q F : Int) (n : Nat) (xs : List Int) (i : Nat) (on : List Value → Heap → Out) (out : Exit → List Value → Heap → Out) : roundK Try.prog S11 noL Try.f11.ntmps 1 (loopOf Try.f11 0) live11 [w63 x, pt 1, .bool false, sl 0 n 2, w63 n, w63 i] [r63 n xs, bl4 R P Q F] on out =
     (bif decide ((↑i : Int) < (↑n : Int)) then bif decide (0 ≤ (↑i : Int)) && decide ((↑i : Int) < (↑n : Int)) then bif (0 + (↑i : Int).toNat * 1).blt n then bif mayB R P Q F && decide (0 < x) then bif
     !mayB R P Q (stepZ R P Q F (xs.getD (0 + (↑i : Int).toNat * 1) 0) x) then out Exit.ret [Value.int IntKind.i64 x, Value.pointer (some (Addr.mk 1 0 none)), Value.bool false, Value.slice (some (Addr.mk 0
     0 none)) n 2, Value.int IntKind.i64 (↑n : Int), Value.int IntKind.i64 (↑i : Int)] [some (Blk.mk false 1 [Seg.ints IntKind.i64 n xs]), some (Blk.mk true 4 [Seg.ints IntKind.i64 1 [R], Seg.ints
     IntKind.u64 2 [P, Q], Seg.ints IntKind.i64 1 [F]])] else bif R != R then out Exit.ret [Value.int IntKind.i64 x, Value.pointer (some (Addr.mk 1 0 none)), Value.bool false, Value.slice (some (Addr.mk 0
     0 none)) n 2, Value.int IntKind.i64 (↑n : Int), Value.int IntKind.i64 (↑i : Int)] [some (Blk.mk false 1 [Seg.ints IntKind.i64 n xs]), some (Blk.mk true 4 [Seg.ints IntKind.i64 1 [R], Seg.ints
     IntKind.u64 2 [P, Q], Seg.ints IntKind.i64 1 [F]])] else bif P != P then out Exit.ret [Value.int IntKind.i64 x, Value.pointer (some (Addr.mk 1 0 none)), Value.bool false, Value.slice (some (Addr.mk 0
     0 none)) n 2, Value.int IntKind.i64 (↑n : Int), Value.int IntKind.i64 (↑i : Int)] [some (Blk.mk false 1 [Seg.ints IntKind.i64 n xs]), some (Blk.mk true 4 [Seg.ints IntKind.i64 1 [R], Seg.ints
     IntKind.u64 2 [P, Q], Seg.ints IntKind.i64 1 [F]])] else bif Q != Q then out Exit.ret [Value.int IntKind.i64 x, Value.pointer (some (Addr.mk 1 0 none)), Value.bool false, Value.slice (some (Addr.mk 0
     0 none)) n 2, Value.int IntKind.i64 (↑n : Int), Value.int IntKind.i64 (↑i : Int)] [some (Blk.mk false 1 [Seg.ints IntKind.i64 n xs]), some (Blk.mk true 4 [Seg.ints IntKind.i64 1 [R], Seg.ints
     IntKind.u64 2 [P, Q], Seg.ints IntKind.i64 1 [F]])] else bif xs.getD (0 + (↑i : Int).toNat * 1) 0 == 0 then bif !(R == R && (P == P && (Q == Q && (stepZ R P Q F (xs.getD (0 + (↑i : Int).toNat * 1) 0)
     x == F && true)))) then out Exit.ret [Value.int IntKind.i64 x, Value.pointer (some (Addr.mk 1 0 none)), Value.bool false, Value.slice (some (Addr.mk 0 0 none)) n 2, Value.int IntKind.i64 (↑n : Int),
     Value.int IntKind.i64 (↑i : Int)] [some (Blk.mk false 1 [Seg.ints IntKind.i64 n xs]), some (Blk.mk true 4 [Seg.ints IntKind.i64 1 [R], Seg.ints IntKind.u64 2 [P, Q], Seg.ints IntKind.i64 1 [F]])] else
     bif decide (xs.getD (0 + (↑i : Int).toNat * 1) 0 > 0) then bif decide (stepZ R P Q F (xs.getD (0 + (↑i : Int).toNat * 1) 0) x < F) then out Exit.ret [Value.int IntKind.i64 x, Value.pointer (some
     (Addr.mk 1 0 none)), Value.bool false, Value.slice (some (Addr.mk 0 0 none)) n 2, Value.int IntKind.i64 (↑n : Int), Value.int IntKind.i64 (↑i : Int)] [some (Blk.mk false 1 [Seg.ints IntKind.i64 n
     xs]), some (Blk.mk true 4 [Seg.ints IntKind.i64 1 [R], Seg.ints IntKind.u64 2 [P, Q], Seg.ints IntKind.i64 1 [F]])] else on [Value.int IntKind.i64 x, Value.pointer (some (Addr.mk 1 0 none)),
     Value.bool false, Value.slice (some (Addr.mk 0 0 none)) n 2, Value.int IntKind.i64 (↑n : Int), Value.int IntKind.i64 (IntKind.i64.wrap ((↑i : Int) + 1))] [some (Blk.mk false 1 [Seg.ints IntKind.i64 n
     xs]), some (Blk.mk true 4 [Seg.ints IntKind.i64 1 ([R].set 0 R), Seg.ints IntKind.u64 2 (([P, Q].set 0 P).set 1 Q), Seg.ints IntKind.i64 1 ([F].set 0 (stepZ R P Q F (xs.getD (0 + (↑i : Int).toNat * 1)
     0) x))])] else on [Value.int IntKind.i64 x, Value.pointer (some (Addr.mk 1 0 none)), Value.bool false, Value.slice (some (Addr.mk 0 0 none)) n 2, Value.int IntKind.i64 (↑n : Int), Value.int
     IntKind.i64 (IntKind.i64.wrap ((↑i : Int) + 1))] [some (Blk.mk false 1 [Seg.ints IntKind.i64 n xs]), some (Blk.mk true 4 [Seg.ints IntKind.i64 1 ([R].set 0 R), Seg.ints IntKind.u64 2 (([P, Q].set 0
     P).set 1 Q), Seg.ints IntKind.i64 1 ([F].set 0 (stepZ R P Q F (xs.getD (0 + (↑i : Int).toNat * 1) 0) x))])] else bif decide (xs.getD (0 + (↑i : Int).toNat * 1) 0 > 0) then bif decide (stepZ R P Q F
     (xs.getD (0 + (↑i : Int).toNat * 1) 0) x < F) then out Exit.ret [Value.int IntKind.i64 x, Value.pointer (some (Addr.mk 1 0 none)), Value.bool false, Value.slice (some (Addr.mk 0 0 none)) n 2,
     Value.int IntKind.i64 (↑n : Int), Value.int IntKind.i64 (↑i : Int)] [some (Blk.mk false 1 [Seg.ints IntKind.i64 n xs]), some (Blk.mk true 4 [Seg.ints IntKind.i64 1 [R], Seg.ints IntKind.u64 2 [P, Q],
     Seg.ints IntKind.i64 1 [F]])] else on [Value.int IntKind.i64 x, Value.pointer (some (Addr.mk 1 0 none)), Value.bool false, Value.slice (some (Addr.mk 0 0 none)) n 2, Value.int IntKind.i64 (↑n : Int),
     Value.int IntKind.i64 (IntKind.i64.wrap ((↑i : Int) + 1))] [some (Blk.mk false 1 [Seg.ints IntKind.i64 n xs]), some (Blk.mk true 4 [Seg.ints IntKind.i64 1 ([R].set 0 R), Seg.ints IntKind.u64 2 (([P,
     Q].set 0 P).set 1 Q), Seg.ints IntKind.i64 1 ([F].set 0 (stepZ R P Q F (xs.getD (0 + (↑i : Int).toNat * 1) 0) x))])] else on [Value.int IntKind.i64 x, Value.pointer (some (Addr.mk 1 0 none)),
     Value.bool false, Value.slice (some (Addr.mk 0 0 none)) n 2, Value.int IntKind.i64 (↑n : Int), Value.int IntKind.i64 (IntKind.i64.wrap ((↑i : Int) + 1))] [some (Blk.mk false 1 [Seg.ints IntKind.i64 n
     xs]), some (Blk.mk true 4 [Seg.ints IntKind.i64 1 ([R].set 0 R), Seg.ints IntKind.u64 2 (([P, Q].set 0 P).set 1 Q), Seg.ints IntKind.i64 1 ([F].set 0 (stepZ R P Q F (xs.getD (0 + (↑i : Int).toNat * 1)
     0) x))])] else out Exit.ret [Value.int IntKind.i64 x, Value.pointer (some (Addr.mk 1 0 none)), Value.bool false, Value.slice (some (Addr.mk 0 0 none)) n 2, Value.int IntKind.i64 (↑n : Int), Value.int
     IntKind.i64 (↑i : Int)] [some (Blk.mk false 1 [Seg.ints IntKind.i64 n xs]), some (Blk.mk true 4 [Seg.ints IntKind.i64 1 [R], Seg.ints IntKind.u64 2 [P, Q], Seg.ints IntKind.i64 1 [F]])] else none else
     none else out (Exit.exit 0) [Value.int IntKind.i64 x, Value.pointer (some (Addr.mk 1 0 none)), Value.bool false, Value.slice (some (Addr.mk 0 0 none)) n 2, Value.int IntKind.i64 (↑n : Int), Value.int
     IntKind.i64 (↑i : Int)] [some (Blk.mk false 1 [Seg.ints IntKind.i64 n xs]), some (Blk.mk true 4 [Seg.ints IntKind.i64 1 [R], Seg.ints IntKind.u64 2 [P, Q], Seg.ints IntKind.i64 1 [F]])]) := by kernel_rfl
--CFEND
/-- The frequency behind some steps. -/
def stepsF (R P Q x : Int) : List Int → Int → Int
  | [], F => F
  | o :: r, F => stepsF R P Q x r (stepZ R P Q F o x)
noncomputable def L11f : LF := fun vs h k => match vs, h with
  | [.int .i64 x, .pointer (some ⟨1, 0, none⟩), .bool false, .slice (some ⟨0, 0, none⟩) n 2, .int .i64 n', .int .i64 0], [some ⟨false, 1, [.ints .i64 m xs]⟩, some ⟨true, 4, [.ints .i64 1 [R], .ints .u64 2 [P, Q], .ints .i64 1 [F]]⟩] =>
    bif chk (m = n ∧ n' = n ∧ n ≤ 100 ∧ mayB R P Q F = true ∧ 1 ≤ x) then k (.exit 0) [w63 x, pt 1, .bool false, sl 0 n 2, w63 n, w63 n] [r63 n xs, bl4 R P Q (stepsF R P Q x xs F)] else none
  | _, _ => none
noncomputable def L11 : LSpec := oneL 4 live11 L11f
--CF cf11 (R P Q F x : Int) (n : Nat) (xs : List Int) :: fnK Try.prog S11 L11 Try.f11 [lV R P Q F, sl 0 n 2, w63 x] [r63 n xs]
theorem cf11 (R P Q F x : Int) (n : Nat) (xs : List Int) : fnK Try.prog S11 L11 Try.f11 [lV R P Q F, sl 0 n 2, w63 x] [r63 n xs] =
     (bif !mayB R P Q F then some (Res.ret (Value.bool true) [some (Blk.mk false 1 [Seg.ints IntKind.i64 n xs])]) else bif decide ((↑n : Int) > 100) then some (Res.ret (Value.bool true) [some (Blk.mk false
     1 [Seg.ints IntKind.i64 n xs])]) else bif decide (x < 1) then some (Res.ret (Value.bool true) [some (Blk.mk false 1 [Seg.ints IntKind.i64 n xs])]) else bif decide (x > 1099511627776) then some
     (Res.ret (Value.bool true) [some (Blk.mk false 1 [Seg.ints IntKind.i64 n xs])]) else bif chk (n = n ∧ (↑n : Int) = (↑n : Int) ∧ n ≤ 100 ∧ mayB R P Q F = true ∧ 1 ≤ x) then bif decide (downI x (stepsF
     R P Q x xs F) 4294967296 ≤ IntKind.i64.wrap (downI x R 4294967296 + 1)) then bif decide (downI x (stepsF R P Q x xs F) 4294967296 ≥ IntKind.i64.wrap (0 - IntKind.i64.wrap (downI x R 4294967296 + 1)))
     then some (Res.ret (Value.bool true) [some (Blk.mk false 1 [Seg.ints IntKind.i64 n xs])]) else some (Res.ret (Value.bool false) [some (Blk.mk false 1 [Seg.ints IntKind.i64 n xs])]) else some (Res.ret
     (Value.bool false) [some (Blk.mk false 1 [Seg.ints IntKind.i64 n xs])]) else none) := by kernel_rfl
--CFEND

theorem hold_mono {a b : Int} (h : a ≤ b) : hold a ≤ hold b := by
  unfold hold; (repeat' split) <;> omega
theorem downI_nonneg {a b d : Int} (ha : 0 ≤ a) (hb : 0 ≤ b) : 0 ≤ downI a b d := by
  unfold downI
  split
  · omega
  · have h1 : 0 ≤ a * b / d := Int.ediv_nonneg (Int.mul_nonneg ha hb) (by omega)
    have := hold_mono h1
    rw [hold_id (by omega)] at this
    exact this
theorem step_facts {R P Q F o x : Int} (hm : mayB R P Q F = true) : mayB R P Q (stepZ R P Q F o x) = true ∧ (o = 0 → stepZ R P Q F o x = F) ∧ (o > 0 → F ≤ stepZ R P Q F o x) := by
  obtain ⟨h1, h2, h3, h4, h5, h6, h7, h8⟩ := mayB_iff.1 hm
  have hF : hold F = F := hold_id (by omega)
  unfold stepZ
  refine ⟨?_, fun e => ?_, fun e => ?_⟩
  · generalize hold (hold (F + downI o 4294967296 x / 2 ^ (min Q 63).toNat) + o / 2 ^ (min P 63).toNat) = y
    refine mayB_iff.2 ⟨h1, h2, h3, h4, h5, h6, ?_⟩
    unfold clampI
    (repeat' split) <;> omega
  · subst e
    have : downI 0 4294967296 x = 0 := by
      unfold downI
      split
      · rfl
      · rw [Int.zero_mul, Int.zero_ediv]; exact hold_id (by omega)
    simp only [this, Int.zero_ediv, Int.add_zero, hF]
    unfold clampI
    (repeat' split) <;> omega
  · have g1 : 0 ≤ downI o 4294967296 x / 2 ^ (min Q 63).toNat := Int.ediv_nonneg (downI_nonneg (by omega) (by omega)) (Int.le_of_lt (Int.pow_pos (by omega)))
    have g2 : 0 ≤ o / 2 ^ (min P 63).toNat := Int.ediv_nonneg (by omega) (Int.le_of_lt (Int.pow_pos (by omega)))
    have g3 := hold_mono (show F ≤ F + downI o 4294967296 x / 2 ^ (min Q 63).toNat by omega)
    rw [hF] at g3
    have g4 := hold_mono (show F ≤ hold (F + downI o 4294967296 x / 2 ^ (min Q 63).toNat) + o / 2 ^ (min P 63).toNat by omega)
    rw [hF] at g4
    generalize hold (hold (F + downI o 4294967296 x / 2 ^ (min Q 63).toNat) + o / 2 ^ (min P 63).toNat) = y at *
    unfold clampI
    (repeat' split) <;> omega

theorem stepsF_may {R P Q x : Int} : ∀ (xs : List Int) (F : Int), mayB R P Q F = true → mayB R P Q (stepsF R P Q x xs F) = true
  | [], _, h => h
  | o :: r, _, h => stepsF_may r _ (step_facts (o := o) (x := x) h).1

theorem loop11 {R P Q x : Int} {n : Nat} {xs : List Int} (hn : n ≤ 100) (hl : xs.length = n) (hx : 1 ≤ x) {k : Exit → List Value → Heap → Out} :
    ∀ (r i : Nat) (F : Int), mayB R P Q F = true → i + r = n + 1 → r ≠ 0 →
      loopN Try.prog S11 noL Try.f11.ntmps 1 (loopOf Try.f11 0) live11 r [w63 x, pt 1, .bool false, sl 0 n 2, w63 n, w63 i] [r63 n xs, bl4 R P Q F] k =
      k (.exit 0) [w63 x, pt 1, .bool false, sl 0 n 2, w63 n, w63 n] [r63 n xs, bl4 R P Q (stepsF R P Q x (xs.drop i) F)] := by
  intro r
  induction r with
  | zero => intro i F _ _ h; exact (h rfl).elim
  | succ r ih =>
    intro i F hm hir _
    refine (loopN_succ ..).trans ((cf11r ..).trans ?_)
    simp only [Int.toNat_natCast, Nat.mul_one, Nat.zero_add]
    by_cases hi : i < n
    · obtain ⟨f1, f2, f3⟩ := step_facts (o := xs.getD i 0) (x := x) hm
      have hd : xs.drop i = xs.getD i 0 :: xs.drop (i + 1) := by
        rw [List.getD_eq_getElem?_getD, List.getElem?_eq_getElem (by omega), Option.getD_some]
        exact List.drop_eq_getElem_cons (by omega)
      have q := ih (i + 1) (stepZ R P Q F (xs.getD i 0) x) f1 (by omega) (by omega)
      rw [hd]
      generalize xs.getD i 0 = o at *
      simp only [dec_t (show (i : Int) < n by omega), dec_t (show (0 : Int) ≤ i by omega), blt_t hi, Bool.and_self, condT, hm, dec_t (show 0 < x by omega), f1, Bool.not_true, condF, bne_self_eq_false, snat i (by omega)]
      have fin : ∀ {z : Out}, z = loopN Try.prog S11 noL Try.f11.ntmps 1 (loopOf Try.f11 0) live11 r [w63 x, pt 1, .bool false, sl 0 n 2, w63 n, w63 (i + 1 : Nat)] [r63 n xs, bl4 R P Q (stepZ R P Q F o x)] k → z = k (.exit 0) [w63 x, pt 1, .bool false, sl 0 n 2, w63 n, w63 n] [r63 n xs, bl4 R P Q (stepsF R P Q x (o :: xs.drop (i + 1)) F)] :=
        fun e => e.trans q
      refine bc (fun c => ?_) (fun c => ?_)
      · have : o = 0 := by simpa using c
        subst this
        have f2 := f2 rfl
        rw [f2]
        simp only [beq_self_eq_true, Bool.and_self, Bool.not_true, condF]
        rw [dec_f (show ¬ ((0 : Int) > 0) by omega), condF]
        rw [f2] at q
        refine Eq.trans q ?_
        show k _ _ [_, bl4 R P Q _] = k _ _ [_, bl4 R P Q (stepsF R P Q x (xs.drop (i + 1)) (stepZ R P Q F 0 x))]
        rw [f2]
      · refine dc (fun c1 => ?_) (fun c1 => ?_)
        · rw [dec_f (show ¬ stepZ R P Q F o x < F by have := f3 c1; omega), condF]
          exact fin rfl
        · exact fin rfl
    · have : i = n := by omega
      subst this
      rw [dec_f (show ¬ (i : Int) < (i : Nat) by omega), condF, List.drop_of_length_le (by omega)]
      rfl
theorem S11_ok : SpecOK Try.prog S11 := mkS_cons ok52 (mkS_cons ok53 (mkS_cons ok55 (mkS_cons ok57 (mkS_nil _))))
theorem loopOK11 : LoopOK Try.prog Try.f11.ntmps 1 (loopOf Try.f11 0) live11 L11f := by
  refine LoopOK.of_rounds S11_ok follows_ok (L := noL) noL_ok ?_
  intro vs h k out hk
  unfold L11f at hk
  split at hk
  · obtain ⟨hb, hk2⟩ := bif_t hk
    obtain ⟨rfl, rfl, h3, h4, h5⟩ := chk_iff.1 hb
    refine ⟨_, _, _, hk2, fun real => ?_⟩
    have hl := real.wseg (i := 0) rfl
    have := loop11 h3 hl h5 (k := fun e vs h => some (.at e (zipS live11 vs) h)) _ 0 _ h4 (Nat.zero_add _) (by omega)
    rw [List.drop_zero] at this
    exact ⟨_, this⟩
  · cases hk
theorem loops11 : LoopsOK Try.prog L11 Try.f11.ntmps 1 (bodyOf Try.f11) := loops_one rfl (by kernel_rfl) loopOK11

theorem ahead_le {R F x : Int} (hR : 1 ≤ R ∧ R ≤ 2147484) (hF : -R ≤ F ∧ F ≤ R) (hx : 1 ≤ x ∧ x ≤ 1099511627776) :
    downI x F 4294967296 ≤ IntKind.i64.wrap (downI x R 4294967296 + 1) ∧ downI x F 4294967296 ≥ IntKind.i64.wrap (0 - IntKind.i64.wrap (downI x R 4294967296 + 1)) := by
  have m1 : x * F ≤ x * R := Int.mul_le_mul_of_nonneg_left hF.2 (by omega)
  have m2 : x * (-R) ≤ x * F := Int.mul_le_mul_of_nonneg_left hF.1 (by omega)
  rw [Int.mul_neg] at m2
  have m3 : x * R ≤ 1099511627776 * 2147484 := Int.mul_le_mul hx.2 hR.2 (by omega) (by omega)
  have m4 : 0 ≤ x * R := Int.mul_nonneg (by omega) (by omega)
  unfold downI
  rw [if_neg (by omega), if_neg (by omega)]
  generalize x * F = a at *
  generalize x * R = b at *
  rw [hold_id (z := a / 4294967296) (by omega), hold_id (z := b / 4294967296) (by omega), swrap (x := b / 4294967296 + 1) (by omega) (by omega), swrap (by omega) (by omega)]
  omega
theorem law11 {R P Q F x : Int} {n : Nat} {xs : List Int} : fnK Try.prog S11 L11 Try.f11 [lV R P Q F, sl 0 n 2, w63 x] [r63 n xs] = some (.ret (.bool true) [r63 n xs]) := by
  refine (cf11 R P Q F x n xs).trans ?_
  refine bc (fun _ => rfl) (fun c1 => dc (fun _ => rfl) (fun c2 => dc (fun _ => rfl) (fun c3 => dc (fun _ => rfl) (fun c4 => ?_))))
  have hm : mayB R P Q F = true := by simpa using c1
  have hm2 := stepsF_may (x := x) xs F hm
  obtain ⟨g1, g2, g3, g4, g5, g6, g7, g8⟩ := mayB_iff.1 hm2
  obtain ⟨a1, a2⟩ := ahead_le (x := x) ⟨g1, g2⟩ ⟨g7, g8⟩ (by omega)
  rw [chk_t ⟨rfl, rfl, by omega, hm, by omega⟩, condT, dec_t a1, condT, dec_t a2, condT]
def F11 : FSpec := fun args h k => match args, h with
  | [.agg ⟨[.int .i64 _, .int .u64 _, .int .u64 _, .int .i64 _]⟩, .slice (some ⟨0, 0, none⟩) n 2, .int .i64 _], [some ⟨false, 1, [.ints .i64 m xs]⟩] =>
    bif Nat.beq m n then k (.bool true) [r63 m xs] else none
  | _, _ => none
theorem ok11 : EntryOK Try.prog 11 F11 := by
  refine EntryOK.of_fn S11_ok follows_ok Try.func11 (by kernel_rfl) (by kernel_rfl) ?_
  intro args h k out hF
  unfold F11 at hF
  split at hF
  · obtain ⟨hb, hF2⟩ := bif_t hF
    have := beq_true hb
    subst this
    exact ⟨_, _, hF2, fun _ => ⟨L11, loops11, law11⟩⟩
  · cases hF
theorem top11 {R P Q F x : Int} {n : Nat} {xs : List Int} {k : Value → Heap → Out} : F11 [lV R P Q F, sl 0 n 2, w63 x] [r63 n xs] k = k (.bool true) [r63 n xs] := by
  show (bif Nat.beq n n then k (.bool true) [r63 n xs] else none) = _
  rw [beq_t rfl, condT]
end Go.Proofs.Ytfgehfnlkakioaa.VC
