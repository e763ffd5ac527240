/- edge: Count, known, EdgeLast: closed forms. -/
import Derived.Test.YtpidmcpnkfgcjaaE2
namespace Go.Proofs.Ytpidmcpnkfgcjaa.VC
open Go Go.Proofs

noncomputable def F15 : FSpec := fun args h k => match args, h with
  | [.pointer none], [] => k (.slice none 0 0) []
  | [.pointer (some ⟨0, 0, none⟩)], [some ⟨false, 9, [.ints .i64 9 xs]⟩] =>
    bif chk (0 ≤ xs.getD 8 0 ∧ xs.getD 8 0 ≤ 1000) then k (sl 1 (allX xs).length 1) [eB false xs, oI (allX xs).length (allX xs)] else none
  | _, _ => none
noncomputable def S18 : Spec := mkS [(15, false, F15), (45, false, F45)]
def live18 : List Nat := [6, 7, 12, 13, 14]
abbrev b1I (x : Int) : Option Blk := some ⟨true, 1, [.ints .i64 1 [x]]⟩
--CF cf18r (a b c : Int) (n i : Nat) (xs l : List Int) (on : List Value → Heap → Out) (out : Exit → List Value → Heap → Out) :: roundK Try.prog S18 noL Try.f18.ntmps 1 (loopOf Try.f18 0) live18 [w63 c, .func (.func 45) #[] #[pt 1, pt 2], sl 3 n 1, w63 n, w63 i] [eB false xs, b1I a, b1I b, oI n l] on out
theorem cf18r (a b c : Int) (n i : Nat) (xs l : List Int) (on : List Value → Heap → Out) (out : Exit → List Value → Heap → Out) : roundK Try.prog S18 noL Try.f18.ntmps 1 (loopOf Try.f18 0) live18 [w63 c, .func (.func 45) #[] #[pt 1, pt 2], sl 3 n 1, w63 n, w63 i] [eB false xs, b1I a, b1I b, oI n l] on out =
     (bif decide ((↑i : Int) < (↑n : Int)) then bif decide (0 ≤ (↑i : Int)) && decide ((↑i : Int) < (↑n : Int)) then bif (0 + (↑i : Int).toNat * 1).blt n then bif decide (a ≤ l.getD (0 + (↑i : Int).toNat *
     1) 0) && decide (l.getD (0 + (↑i : Int).toNat * 1) 0 ≤ b) then on [Value.int IntKind.i64 (IntKind.i64.wrap (c + 1)), Value.func (Fn.func (OfNat.ofNat 45)) #[] #[Value.pointer (some (Addr.mk 1 0
     none)), Value.pointer (some (Addr.mk 2 0 none))], Value.slice (some (Addr.mk 3 0 none)) n 1, Value.int IntKind.i64 (↑n : Int), Value.int IntKind.i64 (IntKind.i64.wrap ((↑i : Int) + 1))] [some (Blk.mk
     false 9 [Seg.ints IntKind.i64 9 xs]), some (Blk.mk true 1 [Seg.ints IntKind.i64 1 [a]]), some (Blk.mk true 1 [Seg.ints IntKind.i64 1 [b]]), some (Blk.mk true 1 [Seg.ints IntKind.i64 n l])] else on
     [Value.int IntKind.i64 c, Value.func (Fn.func (OfNat.ofNat 45)) #[] #[Value.pointer (some (Addr.mk 1 0 none)), Value.pointer (some (Addr.mk 2 0 none))], Value.slice (some (Addr.mk 3 0 none)) n 1,
     Value.int IntKind.i64 (↑n : Int), Value.int IntKind.i64 (IntKind.i64.wrap ((↑i : Int) + 1))] [some (Blk.mk false 9 [Seg.ints IntKind.i64 9 xs]), some (Blk.mk true 1 [Seg.ints IntKind.i64 1 [a]]), some
     (Blk.mk true 1 [Seg.ints IntKind.i64 1 [b]]), some (Blk.mk true 1 [Seg.ints IntKind.i64 n l])] else none else none else out (Exit.exit 0) [Value.int IntKind.i64 c, Value.func (Fn.func (OfNat.ofNat
     45)) #[] #[Value.pointer (some (Addr.mk 1 0 none)), Value.pointer (some (Addr.mk 2 0 none))], Value.slice (some (Addr.mk 3 0 none)) n 1, Value.int IntKind.i64 (↑n : Int), Value.int IntKind.i64 (↑i :
     Int)] [some (Blk.mk false 9 [Seg.ints IntKind.i64 9 xs]), some (Blk.mk true 1 [Seg.ints IntKind.i64 1 [a]]), some (Blk.mk true 1 [Seg.ints IntKind.i64 1 [b]]), some (Blk.mk true 1 [Seg.ints
     IntKind.i64 n l])]) := by kernel_rfl
--CFEND
def cnt (l : List Int) (a b : Int) : Nat := (l.filter fun c => decide (a ≤ c) && decide (c ≤ b)).length
noncomputable def L18f : LF := fun vs h k => match vs, h with
  | [.int .i64 0, .func (.func 45) ⟨[]⟩ ⟨[.pointer (some ⟨1, 0, none⟩), .pointer (some ⟨2, 0, none⟩)]⟩, .slice (some ⟨3, 0, none⟩) n 1, .int .i64 n', .int .i64 0], [some ⟨false, 9, [.ints .i64 9 xs]⟩, some ⟨true, 1, [.ints .i64 1 [a]]⟩, some ⟨true, 1, [.ints .i64 1 [b]]⟩, some ⟨true, 1, [.ints .i64 m l]⟩] =>
    bif chk (m = n ∧ n' = n ∧ n ≤ 1000) then k (.exit 0) [w63 (cnt l a b), .func (.func 45) #[] #[pt 1, pt 2], sl 3 n 1, w63 n, w63 n] [eB false xs, b1I a, b1I b, oI n l] else none
  | _, _ => none
noncomputable def L18 : LSpec := oneL 3 live18 L18f
--CF cf18 (a b : Int) (xs : List Int) :: fnK Try.prog S18 L18 Try.f18 [pt 0, w63 a, w63 b] [eB false xs]
theorem cf18 (a b : Int) (xs : List Int) : fnK Try.prog S18 L18 Try.f18 [pt 0, w63 a, w63 b] [eB false xs] =
     (bif chk (0 ≤ xs.getD 8 0 ∧ xs.getD 8 0 ≤ 1000) then bif chk ((allX xs).length = (allX xs).length ∧ (↑(allX xs).length : Int) = (↑(allX xs).length : Int) ∧ (allX xs).length ≤ 1000) then some (Res.ret
     (Value.int IntKind.i64 (↑(cnt (allX xs) a b) : Int)) [some (Blk.mk false 9 [Seg.ints IntKind.i64 9 xs])]) else none else none) := by kernel_rfl
--CFEND
--CF cf18rn (a b : Int) (on : List Value → Heap → Out) (out : Exit → List Value → Heap → Out) :: roundK Try.prog S18 noL Try.f18.ntmps 0 (loopOf Try.f18 0) live18 [w63 0, .func (.func 45) #[] #[pt 0, pt 1], .slice none 0 0, w63 0, w63 0] [b1I a, b1I b] on out
theorem cf18rn (a b : Int) (on : List Value → Heap → Out) (out : Exit → List Value → Heap → Out) : roundK Try.prog S18 noL Try.f18.ntmps 0 (loopOf Try.f18 0) live18 [w63 0, .func (.func 45) #[] #[pt 0, pt 1], .slice none 0 0, w63 0, w63 0] [b1I a, b1I b] on out =
     (out (Exit.exit 0) [Value.int IntKind.i64 0, Value.func (Fn.func (OfNat.ofNat 45)) #[] #[Value.pointer (some (Addr.mk 0 0 none)), Value.pointer (some (Addr.mk 1 0 none))], Value.slice none 0 0,
     Value.int IntKind.i64 0, Value.int IntKind.i64 0] [some (Blk.mk true 1 [Seg.ints IntKind.i64 1 [a]]), some (Blk.mk true 1 [Seg.ints IntKind.i64 1 [b]])]) := by kernel_rfl
--CFEND
noncomputable def L18nf : LF := fun vs h k => match vs, h with
  | [.int .i64 0, .func (.func 45) ⟨[]⟩ ⟨[.pointer (some ⟨0, 0, none⟩), .pointer (some ⟨1, 0, none⟩)]⟩, .slice none 0 0, .int .i64 0, .int .i64 0], [some ⟨true, 1, [.ints .i64 1 [a]]⟩, some ⟨true, 1, [.ints .i64 1 [b]]⟩] =>
    k (.exit 0) [w63 0, .func (.func 45) #[] #[pt 0, pt 1], .slice none 0 0, w63 0, w63 0] [b1I a, b1I b]
  | _, _ => none
noncomputable def L18n : LSpec := oneL 3 live18 L18nf
--CF cf18n (a b : Int) :: fnK Try.prog S18 L18n Try.f18 [.pointer none, w63 a, w63 b] []
theorem cf18n (a b : Int) : fnK Try.prog S18 L18n Try.f18 [.pointer none, w63 a, w63 b] [] =
     (some (Res.ret (Value.int IntKind.i64 0) [])) := by kernel_rfl
--CFEND
noncomputable def F17 : FSpec := fun args h k => match args, h with
  | [.slice (some ⟨0, p, none⟩) n _, .slice (some ⟨1, q, none⟩) m _], [some ⟨false, 1, [.ints .i64 N xs]⟩, some ⟨false, 1, [.ints .i64 M ys]⟩] =>
    bif chk (p + n ≤ N ∧ q + m ≤ M ∧ n ≤ 1000) then k (.bool (Nat.beq n m && (run17 xs p ys q n 0).1)) [rI N xs, rI M ys] else none
  | _, _ => none
noncomputable def F18 : FSpec := fun args h k => match args, h with
  | [.pointer none, .int .i64 _, .int .i64 _], [] => k (w63 0) []
  | [.pointer (some ⟨0, 0, none⟩), .int .i64 a, .int .i64 b], [some ⟨false, 9, [.ints .i64 9 xs]⟩] =>
    bif chk (0 ≤ xs.getD 8 0 ∧ xs.getD 8 0 ≤ 1000) then k (w63 (cnt (allX xs) a b)) [eB false xs] else none
  | _, _ => none
noncomputable def S10 : Spec := mkS [(11, false, F11), (13, true, F13), (18, false, F18)]
--CF cf10 . :: fnK Try.prog S10 noL Try.f10 [] []
theorem cf10  : fnK Try.prog S10 noL Try.f10 [] [] =
     (bif chk ((0 : Int) ≤ 0 ∧ (0 : Int) ≤ 1000) then bif chk ((0 : Int) ≤ 1 ∧ (1 : Int) ≤ 1000) then bif chk ((0 : Int) ≤ 2 ∧ (2 : Int) ≤ 1000) then bif chk ((0 : Int) ≤ 2 ∧ (2 : Int) ≤ 1000) then some (Res.ret (Value.bool true) []) else none else none else none else
     none) := by kernel_rfl
--CFEND
def F10 : FSpec := fun args h k => match args, h with
  | [], [] => k (.bool true) []
  | _, _ => none
noncomputable def S4 : Spec := mkS [(10, false, F10), (11, false, F11), (12, false, F12), (13, true, F13), (15, false, F15), (16, false, F16), (17, false, F17), (18, false, F18)]
def live4 : List Nat := [2, 3, 4, 5, 16, 17, 18]
abbrev gU (n : Nat) (xs : List Int) : Option Blk := some ⟨false, 1, [.ints .u32 n xs]⟩
--CF cf4r (t : Int) (n m i : Nat) (gs xs l : List Int) (on : List Value → Heap → Out) (out : Exit → List Value → Heap → Out) :: roundK Try.prog S4 noL Try.f4.ntmps 1 (loopOf Try.f4 0) live4 [.bool false, pt 1, sl 2 m 1, w63 t, sl 0 n 2, w63 n, w63 i] [gU n gs, eB true xs, oI m l] on out
theorem cf4r (t : Int) (n m i : Nat) (gs xs l : List Int) (on : List Value → Heap → Out) (out : Exit → List Value → Heap → Out) : roundK Try.prog S4 noL Try.f4.ntmps 1 (loopOf Try.f4 0) live4 [.bool false, pt 1, sl 2 m 1, w63 t, sl 0 n 2, w63 n, w63 i] [gU n gs, eB true xs, oI m l] on out =
     (bif decide ((↑i : Int) < (↑n : Int)) then bif decide (0 ≤ (↑i : Int)) && decide ((↑i : Int) < (↑n : Int)) then bif (0 + (↑i : Int).toNat * 1).blt n then bif (m * 1).ble m then bif decide ((m + 1) * 8
     ≤ 140737488355328) && (m + 1).ble (OfNat.ofNat 4611686018427387904) then bif (0 + m * 1).beq m && true then bif chk (0 ≤ xs.getD 8 0 ∧ xs.getD 8 0 ≤ 1000) then bif lowB xs (IntKind.i64.wrap (t +
     IntKind.i64.wrap (gs.getD (0 + (↑i : Int).toNat * 1) 0))) then out Exit.ret [Value.bool false, Value.pointer (some (Addr.mk 1 0 none)), Value.slice (some (Addr.mk 2 0 none)) (m + 1) 1, Value.int
     IntKind.i64 (IntKind.i64.wrap (t + IntKind.i64.wrap (gs.getD (0 + (↑i : Int).toNat * 1) 0))), Value.slice (some (Addr.mk 0 0 none)) n 2, Value.int IntKind.i64 (↑n : Int), Value.int IntKind.i64 (↑i :
     Int)] [some (Blk.mk false 1 [Seg.ints IntKind.u32 n gs]), some (Blk.mk true 9 [Seg.ints IntKind.i64 9 xs]), some (Blk.mk true 1 [Seg.ints IntKind.i64 (m * 1 + 1) (List.take (m * 1) l ++
     [IntKind.i64.wrap (t + IntKind.i64.wrap (gs.getD (0 + (↑i : Int).toNat * 1) 0))])])] else on [Value.bool false, Value.pointer (some (Addr.mk 1 0 none)), Value.slice (some (Addr.mk 2 0 none)) (m + 1)
     1, Value.int IntKind.i64 (IntKind.i64.wrap (t + IntKind.i64.wrap (gs.getD (0 + (↑i : Int).toNat * 1) 0))), Value.slice (some (Addr.mk 0 0 none)) n 2, Value.int IntKind.i64 (↑n : Int), Value.int
     IntKind.i64 (IntKind.i64.wrap ((↑i : Int) + 1))] [some (Blk.mk false 1 [Seg.ints IntKind.u32 n gs]), some (Blk.mk true 9 [Seg.ints IntKind.i64 9 (pushR xs (IntKind.i64.wrap (t + IntKind.i64.wrap
     (gs.getD (0 + (↑i : Int).toNat * 1) 0))))]), some (Blk.mk true 1 [Seg.ints IntKind.i64 (m * 1 + 1) (List.take (m * 1) l ++ [IntKind.i64.wrap (t + IntKind.i64.wrap (gs.getD (0 + (↑i : Int).toNat * 1)
     0))])])] else none else none else none else none else none else none else out (Exit.exit 0) [Value.bool false, Value.pointer (some (Addr.mk 1 0 none)), Value.slice (some (Addr.mk 2 0 none)) m 1,
     Value.int IntKind.i64 t, Value.slice (some (Addr.mk 0 0 none)) n 2, Value.int IntKind.i64 (↑n : Int), Value.int IntKind.i64 (↑i : Int)] [some (Blk.mk false 1 [Seg.ints IntKind.u32 n gs]), some (Blk.mk
     true 9 [Seg.ints IntKind.i64 9 xs]), some (Blk.mk true 1 [Seg.ints IntKind.i64 m l])]) := by kernel_rfl
--CFEND
theorem allX_len {xs : List Int} : (allX xs).length = min (xs.getD 8 0).toNat 8 := by unfold allX; rw [List.length_map, List.length_range']
theorem loopOK15 : LoopOK Try.prog Try.f15.ntmps 1 (loopOf Try.f15 0) live15 L15f := by
  refine LoopOK.of_rounds_weak (mkS_nil _) follows_ok (L := noL) noL_ok ?_
  intro vs h k out hk
  unfold L15f at hk
  split at hk
  · rename_i i xs
    obtain ⟨hb, hk2⟩ := bif_t hk
    obtain ⟨h1, h2, rfl⟩ := chk_iff.1 hb
    refine ⟨_, _, _, hk2, fun _ => ⟨_, _, WeakS.nilS (k := .i64) (es := 1) (own := true) (by decide) (.same _ (.none 1 1 (.same _ .nil))), min (xs.getD 8 0).toNat 8 + 1, _, _, ?_, WeakS.refl _ _⟩⟩
    have := loop15 ⟨h1, h2⟩ (k := fun e vs h => some (.at e (zipS live15 vs) h)) (min (xs.getD 8 0).toNat 8) ((xs.getD 8 0).toNat - 8) [] (by omega) (by simp; omega)
    simp only [List.nil_append] at this
    exact this
  · cases hk
theorem loops15 : LoopsOK Try.prog L15 Try.f15.ntmps 1 (bodyOf Try.f15) := loops_one rfl (by kernel_rfl) loopOK15
theorem ok15 : EntryOK Try.prog 15 F15 := by
  refine EntryOK.of_fn (mkS_nil _) follows_ok Try.func15 (by kernel_rfl) (by kernel_rfl) ?_
  intro args h k out hF
  unfold F15 at hF
  split at hF
  · exact ⟨_, _, hF, fun _ => ⟨noL, noL_ok, cf15n⟩⟩
  · obtain ⟨hb, hF2⟩ := bif_t hF
    obtain ⟨h1, h2⟩ := chk_iff.1 hb
    refine ⟨_, _, hF2, fun _ => ⟨L15, loops15, (cf15 _).trans ?_⟩⟩
    refine chk_if ⟨h1, h2, ?_⟩ rfl
    rw [swrap (by omega) (by omega)]
    split <;> omega
  · cases hF
theorem loopOK17 : LoopOK Try.prog Try.f17.ntmps 2 (loopOf Try.f17 0) live17 L17f := by
  refine LoopOK.of_rounds (mkS_nil _) follows_ok (L := noL) noL_ok ?_
  intro vs h k out hk
  unfold L17f at hk
  split at hk
  · rename_i p n c q m d N xs M ys
    obtain ⟨hb, hk2⟩ := bif_t hk
    obtain ⟨h1, h2, h3, rfl⟩ := chk_iff.1 hb
    have := loop17 (c := c) (d := d) (xs := xs) (ys := ys) h1 h2 h3 (k := fun e vs h => some (.at e (zipS live17 vs) h)) n 0 (Nat.zero_add _)
    cases hr : (run17 xs p ys q n 0).1 with
    | true =>
      rw [hr, condT] at hk2 this
      exact ⟨_, _, _, hk2, fun _ => ⟨_, this⟩⟩
    | false =>
      rw [hr, condF] at hk2 this
      exact ⟨_, _, _, hk2, fun _ => ⟨_, this⟩⟩
  · cases hk
theorem loops17 : LoopsOK Try.prog L17 Try.f17.ntmps 2 (bodyOf Try.f17) := loops_one rfl (by kernel_rfl) loopOK17
theorem ok17 : EntryOK Try.prog 17 F17 := by
  refine EntryOK.of_fn (mkS_nil _) follows_ok Try.func17 (by kernel_rfl) (by kernel_rfl) ?_
  intro args h k out hF
  unfold F17 at hF
  split at hF
  · rename_i p n c q m d N xs M ys
    obtain ⟨hb, hF2⟩ := bif_t hF
    obtain ⟨h1, h2, h3⟩ := chk_iff.1 hb
    refine ⟨_, _, hF2, fun _ => ⟨L17, loops17, (cf17 ..).trans ?_⟩⟩
    by_cases e : n = m
    · subst e
      rw [bne_self_eq_false, condF, beq_t rfl, Bool.true_and]
      refine chk_if ⟨h1, h2, h3, rfl⟩ ?_
      cases (run17 xs p ys q n 0).1 <;> rfl
    · have e1 : ((n : Int) != (m : Int)) = true := by simp; omega
      have e2 : Nat.beq n m = false := by
        cases hc : Nat.beq n m with
        | false => rfl
        | true => exact (e (beq_true hc)).elim
      rw [e1, condT, e2, Bool.false_and]
  · cases hF
theorem S18_ok : SpecOK Try.prog S18 := mkS_cons ok15 (mkS_cons ok45 (mkS_nil _))
theorem cnt_drop {l : List Int} {i : Nat} {a b : Int} (h : i < l.length) : cnt (l.drop i) a b = (bif decide (a ≤ l.getD i 0) && decide (l.getD i 0 ≤ b) then 1 else 0) + cnt (l.drop (i + 1)) a b := by
  have hd : l.drop i = l.getD i 0 :: l.drop (i + 1) := by
    rw [List.getD_eq_getElem?_getD, List.getElem?_eq_getElem h, Option.getD_some]
    exact List.drop_eq_getElem_cons h
  rw [hd]
  generalize l.getD i 0 = x
  unfold cnt
  cases hb : (decide (a ≤ x) && decide (x ≤ b)) with
  | true => rw [List.filter_cons_of_pos (p := fun c => decide (a ≤ c) && decide (c ≤ b)) hb, List.length_cons, condT]; omega
  | false => rw [List.filter_cons_of_neg (p := fun c => decide (a ≤ c) && decide (c ≤ b)) (by rw [hb]; exact Bool.false_ne_true), condF]; omega
theorem loop18 {a b : Int} {n : Nat} {xs l : List Int} (hn : n ≤ 1000) (hl : l.length = n) {k : Exit → List Value → Heap → Out} : ∀ (r i c : Nat), i + r = n → c ≤ i →
    loopN Try.prog S18 noL Try.f18.ntmps 1 (loopOf Try.f18 0) live18 (r + 1) [w63 c, .func (.func 45) #[] #[pt 1, pt 2], sl 3 n 1, w63 n, w63 i] [eB false xs, b1I a, b1I b, oI n l] k =
    k (.exit 0) [w63 (c + cnt (l.drop i) a b : Nat), .func (.func 45) #[] #[pt 1, pt 2], sl 3 n 1, w63 n, w63 n] [eB false xs, b1I a, b1I b, oI n l] := by
  intro r
  induction r with
  | zero =>
    intro i c hi _
    refine (loopN_succ ..).trans ((cf18r ..).trans ?_)
    have : i = n := by omega
    subst this
    rw [dec_f (show ¬ (i : Int) < i by omega), condF, List.drop_of_length_le (by omega)]
    rfl
  | succ r ih =>
    intro i c hi hc
    refine (loopN_succ ..).trans ((cf18r ..).trans ?_)
    rw [dec_t (show (i : Int) < n by omega), condT, dec_t (show (0 : Int) ≤ i by omega), Bool.and_self, condT, Int.toNat_natCast, Nat.mul_one, Nat.zero_add, blt_t (show i < n by omega), condT, cnt_drop (by omega)]
    cases hb : (decide (a ≤ l.getD i 0) && decide (l.getD i 0 ≤ b)) with
    | true =>
      rw [condT, condT, snat c (by omega), snat i (by omega)]
      have q := ih (i + 1) (c + 1) (by omega) (by omega)
      rw [Nat.add_assoc] at q
      exact q
    | false =>
      rw [condF, condF, snat i (by omega), Nat.zero_add]
      exact ih (i + 1) c (by omega) (by omega)
theorem loopOK18 : LoopOK Try.prog Try.f18.ntmps 1 (loopOf Try.f18 0) live18 L18f := by
  refine LoopOK.of_rounds S18_ok follows_ok (L := noL) noL_ok ?_
  intro vs h k out hk
  unfold L18f at hk
  split at hk
  · rename_i n n' xs a b m l
    obtain ⟨hb, hk2⟩ := bif_t hk
    obtain ⟨rfl, rfl, h3⟩ := chk_iff.1 hb
    refine ⟨_, _, _, hk2, fun real => ⟨m + 1, ?_⟩⟩
    have := loop18 (a := a) (b := b) (xs := xs) h3 (real.wseg (i := 3) rfl) (k := fun e vs h => some (.at e (zipS live18 vs) h)) m 0 0 (Nat.zero_add _) (Nat.le_refl _)
    rw [Nat.zero_add, List.drop_zero] at this
    exact this
  · cases hk
theorem loops18 : LoopsOK Try.prog L18 Try.f18.ntmps 1 (bodyOf Try.f18) := loops_one rfl (by kernel_rfl) loopOK18
theorem loopOK18n : LoopOK Try.prog Try.f18.ntmps 0 (loopOf Try.f18 0) live18 L18nf := by
  refine LoopOK.of_rounds S18_ok follows_ok (L := noL) noL_ok ?_
  intro vs h k out hk
  unfold L18nf at hk
  split at hk
  · exact ⟨_, _, _, hk, fun _ => ⟨1, (loopN_succ ..).trans (cf18rn ..)⟩⟩
  · cases hk
theorem loops18n : LoopsOK Try.prog L18n Try.f18.ntmps 0 (bodyOf Try.f18) := loops_one rfl (by kernel_rfl) loopOK18n
theorem ok18 : EntryOK Try.prog 18 F18 := by
  refine EntryOK.of_fn S18_ok follows_ok Try.func18 (by kernel_rfl) (by kernel_rfl) ?_
  intro args h k out hF
  unfold F18 at hF
  split at hF
  · exact ⟨_, _, hF, fun _ => ⟨L18n, loops18n, cf18n ..⟩⟩
  · obtain ⟨hb, hF2⟩ := bif_t hF
    refine ⟨_, _, hF2, fun _ => ⟨L18, loops18, (cf18 ..).trans ?_⟩⟩
    exact chk_if (chk_iff.1 hb) (chk_if ⟨rfl, rfl, by rw [allX_len]; omega⟩ rfl)
  · cases hF
theorem S10_ok : SpecOK Try.prog S10 := mkS_cons ok11 (mkS_cons ok13 (mkS_cons ok18 (mkS_nil _)))
theorem ok10 : EntryOK Try.prog 10 F10 := by
  refine EntryOK.of_fn S10_ok follows_ok Try.func10 (by kernel_rfl) (by kernel_rfl) ?_
  intro args h k out hF
  unfold F10 at hF
  split at hF
  · refine ⟨_, _, hF, fun _ => ⟨noL, noL_ok, cf10.trans ?_⟩⟩
    exact chk_if (by omega) (chk_if (by omega) (chk_if (by omega) (chk_if (by omega) rfl)))
  · cases hF
end Go.Proofs.Ytpidmcpnkfgcjaa.VC
