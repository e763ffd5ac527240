/- SampleAnew: the law. -/
import Derived.Test.YtfgehfnlkakioaaW5
import Derived.Test.YtfgehfnlkakioaaW9
namespace Go.Proofs.Ytfgehfnlkakioaa.VC
open Go Go.Proofs

abbrev stR14 (rho : Int) (nd no nr i : Nat) : List Value := [.bool true, pt 3, pt 4, w63 rho, sl 0 nd 2, sl 2 nr 2, w63 no, sl 1 no 2, w63 no, w63 i]
abbrev hp14 (nd no nr : Nat) (ds os rs : List Int) (n cc ct C T E : Int) : Heap := [q1 nd ds, q1 no os, q3 nr rs, o3b n cc ct, o3b C T E]
abbrev End14 := Nat × Int × Int × Int × Int × Int
def ends14 (rho E : Int) (nd no nr : Nat) (ds os rs : List Int) (i : Nat) (n cc ct C T : Int) (q : End14) : Prop :=
  ∃ r, ∀ k, loopN Try.prog S14 noL Try.f14.ntmps 3 (loopOf Try.f14 0) live14 r (st14 rho nd no nr i) (hp14 nd no nr ds os rs n cc ct C T E) k = k .ret (stR14 rho nd no nr q.1) (hp14 nd no nr ds os rs q.2.1 q.2.2.1 q.2.2.2.1 q.2.2.2.2.1 q.2.2.2.2.2 E)
/-- Where the loop ends. -/
noncomputable def fin14 (rho E : Int) (nd no nr : Nat) (ds os rs : List Int) (n cc ct C T : Int) : End14 := @Classical.epsilon End14 ⟨(0, 0, 0, 0, 0, 0)⟩ (ends14 rho E nd no nr ds os rs 0 n cc ct C T)
def ok14p (rho n C T E : Int) (nd no nr : Nat) : Prop := 1 ≤ rho ∧ rho ≤ 500 ∧ 2 ≤ no ∧ no ≤ 20 ∧ no ≤ nd ∧ no ≤ nr ∧ 0 ≤ n ∧ n ≤ 1000 ∧ 0 ≤ C ∧ C ≤ 1152921504606846976 ∧ 0 ≤ E ∧ E ≤ 1000000 ∧ 1000000000 ≤ T ∧ T ≤ 3000000000000000000
noncomputable def L14f : LF := fun vs h k => match vs, h with
  | [.bool false, .pointer (some ⟨3, 0, none⟩), .pointer (some ⟨4, 0, none⟩), .int .i64 rho, .slice (some ⟨0, 0, none⟩) nd 2, .slice (some ⟨2, 0, none⟩) nr 2, .int .i64 need, .slice (some ⟨1, 0, none⟩) no 2, .int .i64 no', .int .i64 0],
    [some ⟨false, 1, [.ints .i64 m1 ds]⟩, some ⟨false, 1, [.ints .i64 m2 os]⟩, some ⟨false, 3, [.ints .i64 m3 rs]⟩, some ⟨true, 3, [.ints .i64 3 [n, cc, ct]]⟩, some ⟨true, 3, [.ints .i64 3 [C, T, E]]⟩] =>
    bif chk (m1 = nd ∧ m2 = no ∧ m3 = nr * 3 ∧ need = no ∧ no' = no ∧ ok14p rho n C T E nd no nr) then
      k .ret (stR14 rho nd no nr (fin14 rho E nd no nr ds os rs n cc ct C T).1) (hp14 nd no nr ds os rs (fin14 rho E nd no nr ds os rs n cc ct C T).2.1 (fin14 rho E nd no nr ds os rs n cc ct C T).2.2.1 (fin14 rho E nd no nr ds os rs n cc ct C T).2.2.2.1 (fin14 rho E nd no nr ds os rs n cc ct C T).2.2.2.2.1 (fin14 rho E nd no nr ds os rs n cc ct C T).2.2.2.2.2 E) else none
  | _, _ => none
noncomputable def L14 : LSpec := oneL 5 live14 L14f
--CF cf14 (rho n cc ct C T E : Int) (nd no nr : Nat) (ds os rs : List Int) :: fnK Try.prog S14 L14 Try.f14 [w63 rho, a3 n cc ct, a3 C T E, sl 0 nd 2, sl 1 no 2, sl 2 nr 2] [q1 nd ds, q1 no os, q3 nr rs]
theorem cf14 (rho n cc ct C T E : Int) (nd no nr : Nat) (ds os rs : List Int) : fnK Try.prog S14 L14 Try.f14 [w63 rho, a3 n cc ct, a3 C T E, sl 0 nd 2, sl 1 no 2, sl 2 nr 2] [q1 nd ds, q1 no os, q3 nr rs] =
     (bif decide (rho < 1) then some (Res.ret (Value.bool true) [some (Blk.mk false 1 [Seg.ints IntKind.i64 nd ds]), some (Blk.mk false 1 [Seg.ints IntKind.i64 no os]), some (Blk.mk false 3 [Seg.ints
     IntKind.i64 (nr * 3) rs])]) else bif decide (rho > 500) then some (Res.ret (Value.bool true) [some (Blk.mk false 1 [Seg.ints IntKind.i64 nd ds]), some (Blk.mk false 1 [Seg.ints IntKind.i64 no os]),
     some (Blk.mk false 3 [Seg.ints IntKind.i64 (nr * 3) rs])]) else bif decide ((↑no : Int) < 2) then some (Res.ret (Value.bool true) [some (Blk.mk false 1 [Seg.ints IntKind.i64 nd ds]), some (Blk.mk
     false 1 [Seg.ints IntKind.i64 no os]), some (Blk.mk false 3 [Seg.ints IntKind.i64 (nr * 3) rs])]) else bif decide ((↑no : Int) > 20) then some (Res.ret (Value.bool true) [some (Blk.mk false 1
     [Seg.ints IntKind.i64 nd ds]), some (Blk.mk false 1 [Seg.ints IntKind.i64 no os]), some (Blk.mk false 3 [Seg.ints IntKind.i64 (nr * 3) rs])]) else bif decide ((↑nd : Int) < (↑no : Int)) then some
     (Res.ret (Value.bool true) [some (Blk.mk false 1 [Seg.ints IntKind.i64 nd ds]), some (Blk.mk false 1 [Seg.ints IntKind.i64 no os]), some (Blk.mk false 3 [Seg.ints IntKind.i64 (nr * 3) rs])]) else bif
     decide ((↑nr : Int) < (↑no : Int)) then some (Res.ret (Value.bool true) [some (Blk.mk false 1 [Seg.ints IntKind.i64 nd ds]), some (Blk.mk false 1 [Seg.ints IntKind.i64 no os]), some (Blk.mk false 3
     [Seg.ints IntKind.i64 (nr * 3) rs])]) else bif decide (n < 0) then some (Res.ret (Value.bool true) [some (Blk.mk false 1 [Seg.ints IntKind.i64 nd ds]), some (Blk.mk false 1 [Seg.ints IntKind.i64 no
     os]), some (Blk.mk false 3 [Seg.ints IntKind.i64 (nr * 3) rs])]) else bif decide (n > 1000) then some (Res.ret (Value.bool true) [some (Blk.mk false 1 [Seg.ints IntKind.i64 nd ds]), some (Blk.mk false
     1 [Seg.ints IntKind.i64 no os]), some (Blk.mk false 3 [Seg.ints IntKind.i64 (nr * 3) rs])]) else bif decide (C < 0) then some (Res.ret (Value.bool true) [some (Blk.mk false 1 [Seg.ints IntKind.i64 nd
     ds]), some (Blk.mk false 1 [Seg.ints IntKind.i64 no os]), some (Blk.mk false 3 [Seg.ints IntKind.i64 (nr * 3) rs])]) else bif decide (C > 1152921504606846976) then some (Res.ret (Value.bool true)
     [some (Blk.mk false 1 [Seg.ints IntKind.i64 nd ds]), some (Blk.mk false 1 [Seg.ints IntKind.i64 no os]), some (Blk.mk false 3 [Seg.ints IntKind.i64 (nr * 3) rs])]) else bif decide (E < 0) then some
     (Res.ret (Value.bool true) [some (Blk.mk false 1 [Seg.ints IntKind.i64 nd ds]), some (Blk.mk false 1 [Seg.ints IntKind.i64 no os]), some (Blk.mk false 3 [Seg.ints IntKind.i64 (nr * 3) rs])]) else bif
     decide (E > 1000000) then some (Res.ret (Value.bool true) [some (Blk.mk false 1 [Seg.ints IntKind.i64 nd ds]), some (Blk.mk false 1 [Seg.ints IntKind.i64 no os]), some (Blk.mk false 3 [Seg.ints
     IntKind.i64 (nr * 3) rs])]) else bif decide (T < 1000000000) then some (Res.ret (Value.bool true) [some (Blk.mk false 1 [Seg.ints IntKind.i64 nd ds]), some (Blk.mk false 1 [Seg.ints IntKind.i64 no
     os]), some (Blk.mk false 3 [Seg.ints IntKind.i64 (nr * 3) rs])]) else bif decide (T > 3000000000000000000) then some (Res.ret (Value.bool true) [some (Blk.mk false 1 [Seg.ints IntKind.i64 nd ds]),
     some (Blk.mk false 1 [Seg.ints IntKind.i64 no os]), some (Blk.mk false 3 [Seg.ints IntKind.i64 (nr * 3) rs])]) else bif chk (nd = nd ∧ no = no ∧ nr * 3 = nr * 3 ∧ (↑no : Int) = (↑no : Int) ∧ (↑no :
     Int) = (↑no : Int) ∧ ok14p rho n C T E nd no nr) then some (Res.ret (Value.bool true) [some (Blk.mk false 1 [Seg.ints IntKind.i64 nd ds]), some (Blk.mk false 1 [Seg.ints IntKind.i64 no os]), some
     (Blk.mk false 3 [Seg.ints IntKind.i64 (nr * 3) rs])]) else none) := by kernel_rfl
--CFEND
theorem follows14 {rho n cc ct C T o E : Int} (h1 : 1 ≤ rho ∧ rho ≤ 500) (hE : 0 ≤ E ∧ E ≤ 1000000) (ho : -E ≤ o ∧ o ≤ E) (hn : 1 ≤ n)
    (hf : 1000000000 - 1000 * rho ≤ C - cc ∧ C - cc ≤ 1000000000 + 1000 * rho ∧ T - 1000000000 - E ≤ ct ∧ ct ≤ T - 1000000000 + E) : followsB rho n cc ct C (T + o) E = true := by
  refine chk_t ⟨h1.1, h1.2, hn, by omega, by omega, ?_⟩
  have m := Int.mul_le_mul_of_nonneg_right (show 999500000 ≤ C - cc by omega) (show 0 ≤ 2 * rho + 1 by omega)
  rw [hold_id (z := T + o - ct) (by omega)]
  generalize (C - cc) * (2 * rho + 1) = p at *
  omega
theorem round14 {rho E n cc ct C T : Int} {nd no nr i : Nat} {ds os rs : List Int} (hi : i < no) (h1 : 1 ≤ rho ∧ rho ≤ 500) (h2 : 2 ≤ no ∧ no ≤ 20) (h3 : no ≤ nd) (h4 : no ≤ nr) (hE : 0 ≤ E ∧ E ≤ 1000000)
    (hn : (i : Int) ≤ n ∧ n ≤ 1000) (hC : 0 ≤ C ∧ C ≤ 2305843009213693952) (hT : 1000000000 ≤ T ∧ T ≤ 4000000000000000000)
    (hf : i = 0 ∨ (1000000000 - 1000 * rho ≤ C - cc ∧ C - cc ≤ 1000000000 + 1000 * rho ∧ T - 1000000000 - E ≤ ct ∧ ct ≤ T - 1000000000 + E)) :
    (∀ on out, roundK Try.prog S14 noL Try.f14.ntmps 3 (loopOf Try.f14 0) live14 (st14 rho nd no nr i) (hp14 nd no nr ds os rs n cc ct C T E) on out = out .ret (stR14 rho nd no nr i) (hp14 nd no nr ds os rs n cc ct C T E)) ∨
    (∃ n2 o d : Int, (i : Int) + 1 ≤ n2 ∧ n2 < no ∧ (-E ≤ o ∧ o ≤ E) ∧ (-(1000 * rho) ≤ d ∧ d ≤ 1000 * rho) ∧
      ∀ on out, roundK Try.prog S14 noL Try.f14.ntmps 3 (loopOf Try.f14 0) live14 (st14 rho nd no nr i) (hp14 nd no nr ds os rs n cc ct C T E) on out = on (st14 rho nd no nr (i + 1)) (hp14 nd no nr ds os rs n2 C (T + o) (C + 1000000000 + d) (T + 1000000000) E)) := by
  have cf := fun on out => cf14r rho n cc ct C T E nd no nr i ds os rs on out
  simp only [Int.toNat_natCast, Nat.mul_one, Nat.zero_add, dec_t (show (i : Int) < no by omega), dec_t (show (0 : Int) ≤ i by omega), dec_t (show (i : Int) < nd by omega), dec_t (show (i : Int) < nr by omega), Bool.and_self, condT,
    blt_t hi, blt_t (show i < nd by omega), blt_t (show i * 3 < nr * 3 by omega), blt_t (show i * 3 + 1 < nr * 3 by omega), blt_t (show i * 3 + 1 + 1 < nr * 3 by omega), snat i (by omega),
    swrap (x := 0 - E) (by omega) (by omega), swrap (x := -1000 * rho) (by omega) (by omega), swrap (x := 1000 * rho) (by omega) (by omega)] at cf
  generalize os.getD i 0 = o at *
  generalize ds.getD i 0 = d at *
  generalize rs.getD (i * 3) 0 = x at *
  generalize rs.getD (i * 3 + 1) 0 = y at *
  generalize rs.getD (i * 3 + 1 + 1) 0 = z at *
  by_cases c1 : o < 0 - E
  · exact .inl fun on out => (cf on out).trans (by rw [dec_t c1]; exact condT)
  by_cases c2 : o > E
  · exact .inl fun on out => (cf on out).trans (by rw [dec_f c1, dec_t c2]; exact condF.trans condT)
  by_cases c3 : d < -1000 * rho
  · exact .inl fun on out => (cf on out).trans (by rw [dec_f c1, dec_f c2, dec_t c3, condF, condF]; exact condT)
  by_cases c4 : d > 1000 * rho
  · exact .inl fun on out => (cf on out).trans (by rw [dec_f c1, dec_f c2, dec_f c3, dec_t c4, condF, condF, condF]; exact condT)
  simp only [dec_f c1, dec_f c2, dec_f c3, dec_f c4, condF] at cf
  cases hx : (x != 0) with
  | true => exact .inl fun on out => (cf on out).trans (by rw [hx]; exact condT)
  | false =>
  simp only [hx, condF] at cf
  have hx0 : x = 0 := by simpa using hx
  subst hx0
  by_cases c5 : y < 0
  · exact .inl fun on out => (cf on out).trans (by rw [dec_t c5]; exact condT)
  by_cases c6 : y > 6000000000000000000
  · exact .inl fun on out => (cf on out).trans (by rw [dec_f c5, dec_t c6, condF]; exact condT)
  by_cases c7 : z < 0
  · exact .inl fun on out => (cf on out).trans (by rw [dec_f c5, dec_f c6, dec_t c7, condF, condF]; exact condT)
  by_cases c8 : z > 2305843009213693952
  · exact .inl fun on out => (cf on out).trans (by rw [dec_f c5, dec_f c6, dec_f c7, dec_t c8, condF, condF, condF]; exact condT)
  have hm : mayO rho 0 y z n C (T + o) E no = true := mayO_t h1 (.inr (.inr (.inr ⟨rfl, by omega, by omega, by omega, by omega⟩))) ⟨by omega, by omega, by omega, by omega, by omega⟩ ⟨by omega, by omega, by omega, by omega⟩
  simp only [dec_f c5, dec_f c6, dec_f c7, dec_f c8, condF, swrap (x := T + o) (by omega) (by omega), swrap (x := T + 1000000000) (by omega) (by omega), swrap (x := C + 1000000000) (by omega) (by omega), swrap (x := C + 1000000000 + d) (by omega) (by omega), hm, condT] at cf
  cases ht : takenB 0 y z (T + o) E with
  | true => exact .inl fun on out => (cf on out).trans (by rw [ht]; exact condT)
  | false =>
  simp only [ht, condF, show ((0 : Int) == 10) = false from rfl] at cf
  cases hb : followsB rho n cc ct C (T + o) E with
  | true =>
    by_cases c9 : n + 1 ≥ (no : Int)
    · exact .inl fun on out => (cf on out).trans (by rw [hb, dec_t c9, condT]; exact condT)
    · refine .inr ⟨n + 1, o, d, by omega, by omega, by omega, by omega, fun on out => (cf on out).trans ?_⟩
      rw [hb, dec_f c9, dec_f (show ¬ n + 1 < ((i + 1 : Nat) : Int) by omega), condT, condF]
      exact condF
  | false =>
    have hi0 : i = 0 := by
      rcases hf with hf | hf
      · exact hf
      · by_cases h0 : i = 0
        · exact h0
        · rw [follows14 h1 hE (by omega) (by omega) hf] at hb; cases hb
    subst hi0
    refine .inr ⟨1, o, d, by omega, by omega, by omega, by omega, fun on out => (cf on out).trans ?_⟩
    rw [hb, dec_f (show ¬ (1 : Int) ≥ (no : Int) by omega), dec_f (show ¬ (1 : Int) < ((0 + 1 : Nat) : Int) by omega), condF, condF]
    exact condF
theorem loop14 {rho E : Int} {nd no nr : Nat} {ds os rs : List Int} (h1 : 1 ≤ rho ∧ rho ≤ 500) (h2 : 2 ≤ no ∧ no ≤ 20) (h3 : no ≤ nd) (h4 : no ≤ nr) (hE : 0 ≤ E ∧ E ≤ 1000000) :
    ∀ (r i : Nat) (n cc ct C T : Int), i + r = no → r ≠ 0 → (i : Int) ≤ n ∧ n ≤ 1000 → 0 ≤ C ∧ C ≤ 1152921504606846976 + i * 1000500000 → 1000000000 ≤ T ∧ T ≤ 3000000000000000000 + i * 1000000000 →
      (i = 0 ∨ (1000000000 - 1000 * rho ≤ C - cc ∧ C - cc ≤ 1000000000 + 1000 * rho ∧ T - 1000000000 - E ≤ ct ∧ ct ≤ T - 1000000000 + E)) → ∃ q, ends14 rho E nd no nr ds os rs i n cc ct C T q := by
  intro r
  induction r with
  | zero => intro i n cc ct C T _ h; exact (h rfl).elim
  | succ r ih =>
    intro i n cc ct C T hir _ hn hC hT hf
    rcases round14 (ds := ds) (os := os) (rs := rs) (i := i) (by omega) h1 h2 h3 h4 hE hn (show 0 ≤ C ∧ C ≤ 2305843009213693952 by omega) (show 1000000000 ≤ T ∧ T ≤ 4000000000000000000 by omega) hf with h | ⟨n2, o, d, f1, f2, f3, f4, h⟩
    · exact ⟨(i, n, cc, ct, C, T), 1, fun k => (loopN_succ ..).trans (h _ _)⟩
    · obtain ⟨q, r2, hq⟩ := ih (i + 1) n2 C (T + o) (C + 1000000000 + d) (T + 1000000000) (by omega) (by omega) (by omega) (by omega) (by omega) (.inr (by omega))
      exact ⟨q, r2 + 1, fun k => (loopN_succ ..).trans ((h _ _).trans (hq k))⟩
theorem fin14_ok {rho n cc ct C T E : Int} {nd no nr : Nat} {ds os rs : List Int} (h : ok14p rho n C T E nd no nr) : ends14 rho E nd no nr ds os rs 0 n cc ct C T (fin14 rho E nd no nr ds os rs n cc ct C T) := by
  obtain ⟨a1, a2, a3, a4, a5, a6, a7, a8, a9, a10, a11, a12, a13, a14⟩ := h
  exact Classical.epsilon_spec (loop14 ⟨a1, a2⟩ ⟨a3, a4⟩ a5 a6 ⟨a11, a12⟩ no 0 n cc ct C T (Nat.zero_add _) (by omega) ⟨a7, a8⟩ ⟨a9, by omega⟩ ⟨a13, by omega⟩ (.inl rfl))
theorem chk_if14 {p : Prop} {α : Type} {a b c : α} (h : p) (e : a = c) : (bif chk p then a else b) = c := by rw [chk_t h]; exact e
theorem S14_ok : SpecOK Try.prog S14 := mkS_cons ok59 (mkS_cons ok60 (mkS_nil _))
theorem loopOK14 : LoopOK Try.prog Try.f14.ntmps 3 (loopOf Try.f14 0) live14 L14f := by
  refine LoopOK.of_rounds S14_ok follows_ok (L := noL) noL_ok ?_
  intro vs h k out hk
  unfold L14f at hk
  split at hk
  · obtain ⟨hb, hk2⟩ := bif_t hk
    obtain ⟨rfl, rfl, rfl, rfl, rfl, h6⟩ := chk_iff.1 hb
    refine ⟨_, _, _, hk2, fun _ => ?_⟩
    obtain ⟨r, hr⟩ := fin14_ok h6
    exact ⟨r, hr _⟩
  · cases hk
theorem loops14 : LoopsOK Try.prog L14 Try.f14.ntmps 3 (bodyOf Try.f14) := loops_one rfl (by kernel_rfl) loopOK14
theorem law14 {rho n cc ct C T E : Int} {nd no nr : Nat} {ds os rs : List Int} : fnK Try.prog S14 L14 Try.f14 [w63 rho, a3 n cc ct, a3 C T E, sl 0 nd 2, sl 1 no 2, sl 2 nr 2] [q1 nd ds, q1 no os, q3 nr rs] = some (.ret (.bool true) [q1 nd ds, q1 no os, q3 nr rs]) := by
  refine (cf14 ..).trans ?_
  refine dc (fun _ => rfl) (fun c1 => dc (fun _ => rfl) (fun c2 => dc (fun _ => rfl) (fun c3 => dc (fun _ => rfl) (fun c4 => dc (fun _ => rfl) (fun c5 => dc (fun _ => rfl) (fun c6 => dc (fun _ => rfl) (fun c7 => ?_)))))))
  refine dc (fun _ => rfl) (fun c8 => dc (fun _ => rfl) (fun c9 => dc (fun _ => rfl) (fun c10 => dc (fun _ => rfl) (fun c11 => dc (fun _ => rfl) (fun c12 => dc (fun _ => rfl) (fun c13 => dc (fun _ => rfl) (fun c14 => ?_)))))))
  have hk : ok14p rho n C T E nd no nr := ⟨by omega, by omega, by omega, by omega, by omega, by omega, by omega, by omega, by omega, by omega, by omega, by omega, by omega, by omega⟩
  exact chk_if14 ⟨rfl, rfl, rfl, rfl, rfl, hk⟩ rfl
def F14 : FSpec := fun args h k => match args, h with
  | [.int .i64 _, .agg ⟨[.int .i64 _, .int .i64 _, .int .i64 _]⟩, .agg ⟨[.int .i64 _, .int .i64 _, .int .i64 _]⟩, .slice (some ⟨0, 0, none⟩) nd 2, .slice (some ⟨1, 0, none⟩) no 2, .slice (some ⟨2, 0, none⟩) nr 2],
    [some ⟨false, 1, [.ints .i64 m1 ds]⟩, some ⟨false, 1, [.ints .i64 m2 os]⟩, some ⟨false, 3, [.ints .i64 m3 rs]⟩] =>
    bif Nat.beq m1 nd && Nat.beq m2 no && Nat.beq m3 (nr * 3) then k (.bool true) [q1 nd ds, q1 no os, q3 nr rs] else none
  | _, _ => none
theorem ok14 : EntryOK Try.prog 14 F14 := by
  refine EntryOK.of_fn S14_ok follows_ok Try.func14 (by kernel_rfl) (by kernel_rfl) ?_
  intro args h k out hF
  unfold F14 at hF
  split at hF
  · obtain ⟨hb, hF2⟩ := bif_t hF
    simp only [Bool.and_eq_true] at hb
    have e1 := beq_true hb.1.1
    have e2 := beq_true hb.1.2
    have e3 := beq_true hb.2
    subst e1 e2 e3
    exact ⟨_, _, hF2, fun _ => ⟨L14, loops14, law14⟩⟩
  · cases hF
theorem top14 {rho n cc ct C T E : Int} {nd no nr : Nat} {ds os rs : List Int} {k : Value → Heap → Out} : F14 [w63 rho, a3 n cc ct, a3 C T E, sl 0 nd 2, sl 1 no 2, sl 2 nr 2] [q1 nd ds, q1 no os, q3 nr rs] k = k (.bool true) [q1 nd ds, q1 no os, q3 nr rs] := by
  show (bif Nat.beq nd nd && Nat.beq no no && Nat.beq (nr * 3) (nr * 3) then k (.bool true) [q1 nd ds, q1 no os, q3 nr rs] else none) = _
  rw [beq_t rfl, beq_t rfl, beq_t rfl]
  exact condT
end Go.Proofs.Ytfgehfnlkakioaa.VC
