/- AgeingLine: the law. -/
import Derived.Test.YtfgehfnlkakioaaA2
namespace Go.Proofs.Ytfgehfnlkakioaa.VC
open Go Go.Proofs

abbrev gB (n : Nat) (xs : List Int) : Option Blk := some ⟨false, 1, [.ints .i64 n xs]⟩
noncomputable def S15 : Spec := mkS [(65, false, F65), (66, false, F66), (67, true, F67g), (68, false, F68g)]
def live15 : List Nat := [8, 9, 11, 1, 2, 3, 0, 13, 59, 60, 61]
--CF cf15r (slope shift base t : Int) (n m i : Nat) (gs xa xb : List Int) (on : List Value → Heap → Out) (out : Exit → List Value → Heap → Out) :: roundK Try.prog S15 noL Try.f15.ntmps 1 (loopOf Try.f15 0) live15 [.bool false, pt 1, pt 2, w63 slope, w63 shift, w63 base, sl 0 n 2, w63 t, sl 0 n 2, w63 m, w63 i] [gB n gs, bB true xa, bB true xb] on out
theorem cf15r (slope shift base t : Int) (n m i : Nat) (gs xa xb : List Int) (on : List Value → Heap → Out) (out : Exit → List Value → Heap → Out) : roundK Try.prog S15 noL Try.f15.ntmps 1 (loopOf Try.f15 0) live15 [.bool false, pt 1, pt 2, w63 slope, w63 shift, w63 base, sl 0 n 2, w63 t, sl 0 n 2, w63 m, w63 i] [gB n gs, bB true xa, bB true xb] on out =
     (bif decide ((↑i : Int) < (↑m : Int)) then bif decide (0 ≤ (↑i : Int)) && decide ((↑i : Int) < (↑n : Int)) then bif (0 + (↑i : Int).toNat * 1).blt n then bif decide (gs.getD (0 + (↑i : Int).toNat * 1)
     0 < 1) then out Exit.ret [Value.bool true, Value.pointer (some (Addr.mk 1 0 none)), Value.pointer (some (Addr.mk 2 0 none)), Value.int IntKind.i64 slope, Value.int IntKind.i64 shift, Value.int
     IntKind.i64 base, Value.slice (some (Addr.mk 0 0 none)) n 2, Value.int IntKind.i64 t, Value.slice (some (Addr.mk 0 0 none)) n 2, Value.int IntKind.i64 (↑m : Int), Value.int IntKind.i64 (↑i : Int)]
     [some (Blk.mk false 1 [Seg.ints IntKind.i64 n gs]), some (Blk.mk true 18 [Seg.ints IntKind.i64 18 xa]), some (Blk.mk true 18 [Seg.ints IntKind.i64 18 xb])] else bif decide (gs.getD (0 + (↑i :
     Int).toNat * 1) 0 > 4000) then out Exit.ret [Value.bool true, Value.pointer (some (Addr.mk 1 0 none)), Value.pointer (some (Addr.mk 2 0 none)), Value.int IntKind.i64 slope, Value.int IntKind.i64
     shift, Value.int IntKind.i64 base, Value.slice (some (Addr.mk 0 0 none)) n 2, Value.int IntKind.i64 t, Value.slice (some (Addr.mk 0 0 none)) n 2, Value.int IntKind.i64 (↑m : Int), Value.int
     IntKind.i64 (↑i : Int)] [some (Blk.mk false 1 [Seg.ints IntKind.i64 n gs]), some (Blk.mk true 18 [Seg.ints IntKind.i64 18 xa]), some (Blk.mk true 18 [Seg.ints IntKind.i64 18 xb])] else bif decide
     (IntKind.i64.wrap (slope * IntKind.i64.wrap (t + gs.getD (0 + (↑i : Int).toNat * 1) 0)) > 2000000) then out Exit.ret [Value.bool true, Value.pointer (some (Addr.mk 1 0 none)), Value.pointer (some
     (Addr.mk 2 0 none)), Value.int IntKind.i64 slope, Value.int IntKind.i64 shift, Value.int IntKind.i64 base, Value.slice (some (Addr.mk 0 0 none)) n 2, Value.int IntKind.i64 (IntKind.i64.wrap (t +
     gs.getD (0 + (↑i : Int).toNat * 1) 0)), Value.slice (some (Addr.mk 0 0 none)) n 2, Value.int IntKind.i64 (↑m : Int), Value.int IntKind.i64 (↑i : Int)] [some (Blk.mk false 1 [Seg.ints IntKind.i64 n
     gs]), some (Blk.mk true 18 [Seg.ints IntKind.i64 18 xa]), some (Blk.mk true 18 [Seg.ints IntKind.i64 18 xb])] else bif decide (IntKind.i64.wrap (slope * IntKind.i64.wrap (t + gs.getD (0 + (↑i :
     Int).toNat * 1) 0)) < -2000000) then out Exit.ret [Value.bool true, Value.pointer (some (Addr.mk 1 0 none)), Value.pointer (some (Addr.mk 2 0 none)), Value.int IntKind.i64 slope, Value.int IntKind.i64
     shift, Value.int IntKind.i64 base, Value.slice (some (Addr.mk 0 0 none)) n 2, Value.int IntKind.i64 (IntKind.i64.wrap (t + gs.getD (0 + (↑i : Int).toNat * 1) 0)), Value.slice (some (Addr.mk 0 0 none))
     n 2, Value.int IntKind.i64 (↑m : Int), Value.int IntKind.i64 (↑i : Int)] [some (Blk.mk false 1 [Seg.ints IntKind.i64 n gs]), some (Blk.mk true 18 [Seg.ints IntKind.i64 18 xa]), some (Blk.mk true 18
     [Seg.ints IntKind.i64 18 xb])] else bif chk (∃ pts, xa = book pts ∧ pts.length ≤ 8 ∧ -2147484 ≤ IntKind.i64.wrap (slope * IntKind.i64.wrap (t + gs.getD (0 + (↑i : Int).toNat * 1) 0)) ∧
     IntKind.i64.wrap (slope * IntKind.i64.wrap (t + gs.getD (0 + (↑i : Int).toNat * 1) 0)) ≤ 2147484 ∧ ∀ (p : Int × Int), pts.getLast? = some p → p.fst < IntKind.i64.wrap (IntKind.i64.wrap (t + gs.getD (0
     + (↑i : Int).toNat * 1) 0) * 1000000000)) then bif chk (∃ pts, xb = book pts ∧ pts.length ≤ 8 ∧ -2147484 ≤ IntKind.i64.wrap (IntKind.i64.wrap (slope * IntKind.i64.wrap (t +
     gs.getD (0 + (↑i : Int).toNat * 1) 0)) + shift) ∧ IntKind.i64.wrap (IntKind.i64.wrap (slope * IntKind.i64.wrap (t + gs.getD (0 + (↑i : Int).toNat * 1) 0)) + shift) ≤ 2147484 ∧ ∀ (p : Int × Int),
     pts.getLast? = some p → p.fst < IntKind.i64.wrap (base + IntKind.i64.wrap (IntKind.i64.wrap (t + gs.getD (0 + (↑i : Int).toNat * 1) 0) * 1000000000))) then on [Value.bool false,
     Value.pointer (some (Addr.mk 1 0 none)), Value.pointer (some (Addr.mk 2 0 none)), Value.int IntKind.i64 slope, Value.int IntKind.i64 shift, Value.int IntKind.i64 base, Value.slice (some (Addr.mk 0 0
     none)) n 2, Value.int IntKind.i64 (IntKind.i64.wrap (t + gs.getD (0 + (↑i : Int).toNat * 1) 0)), Value.slice (some (Addr.mk 0 0 none)) n 2, Value.int IntKind.i64 (↑m : Int), Value.int IntKind.i64
     (IntKind.i64.wrap ((↑i : Int) + 1))] [some (Blk.mk false 1 [Seg.ints IntKind.i64 n gs]), some (Blk.mk true 18 [Seg.ints IntKind.i64 18 (book (pushP (pointsX xa) (IntKind.i64.wrap (IntKind.i64.wrap (t
     + gs.getD (0 + (↑i : Int).toNat * 1) 0) * 1000000000), IntKind.i64.wrap (slope * IntKind.i64.wrap (t + gs.getD (0 + (↑i : Int).toNat * 1) 0)))))]), some (Blk.mk true 18 [Seg.ints IntKind.i64 18 (book
     (pushP (pointsX xb) (IntKind.i64.wrap (base + IntKind.i64.wrap (IntKind.i64.wrap (t + gs.getD (0 + (↑i : Int).toNat * 1) 0) * 1000000000)), IntKind.i64.wrap (IntKind.i64.wrap (slope * IntKind.i64.wrap
     (t + gs.getD (0 + (↑i : Int).toNat * 1) 0)) + shift))))])] else none else none else none else none else out (Exit.exit 0) [Value.bool false, Value.pointer (some (Addr.mk 1 0 none)), Value.pointer
     (some (Addr.mk 2 0 none)), Value.int IntKind.i64 slope, Value.int IntKind.i64 shift, Value.int IntKind.i64 base, Value.slice (some (Addr.mk 0 0 none)) n 2, Value.int IntKind.i64 t, Value.slice (some
     (Addr.mk 0 0 none)) n 2, Value.int IntKind.i64 (↑m : Int), Value.int IntKind.i64 (↑i : Int)] [some (Blk.mk false 1 [Seg.ints IntKind.i64 n gs]), some (Blk.mk true 18 [Seg.ints IntKind.i64 18 xa]),
     some (Blk.mk true 18 [Seg.ints IntKind.i64 18 xb])]) := by kernel_rfl
--CFEND
/-- What the loop over the gaps comes to: (stopped, index, time, times). -/
def run15 : List Int → Nat → Int → List Int → Bool × Nat × Int × List Int
  | [], i, t, ats => (false, i, t, ats)
  | g :: r, i, t, ats => bif decide (g < 1) || decide (g > 4000) then (true, i, t, ats) else run15 r (i + 1) (t + g) (ats ++ [t + g])
def last8 (l : List Int) : List Int := l.drop (l.length - 8)
noncomputable def L15f : LF := fun vs h k => match vs, h with
  | [.bool false, .pointer (some ⟨1, 0, none⟩), .pointer (some ⟨2, 0, none⟩), .int .i64 slope, .int .i64 shift, .int .i64 base, .slice (some ⟨0, 0, none⟩) n 2, .int .i64 0, .slice (some ⟨0, 0, none⟩) n2 2, .int .i64 m, .int .i64 0], [some ⟨false, 1, [.ints .i64 n3 gs]⟩, some ⟨true, 18, [.ints .i64 18 xa]⟩, some ⟨true, 18, [.ints .i64 18 xb]⟩] =>
    bif chk (n2 = n ∧ n3 = n ∧ m = n ∧ n ≤ 12 ∧ xa = book [] ∧ xb = book [] ∧ -9 ≤ slope ∧ slope ≤ 9 ∧ -1000 ≤ shift ∧ shift ≤ 1000 ∧ 0 ≤ base ∧ base ≤ 1152921504606846976) then
      bif (run15 gs 0 0 []).1 then k .ret [.bool true, pt 1, pt 2, w63 slope, w63 shift, w63 base, sl 0 n 2, w63 (run15 gs 0 0 []).2.2.1, sl 0 n 2, w63 n, w63 (run15 gs 0 0 []).2.1]
        [gB n gs, bB true (book (lineP slope 0 0 (last8 (run15 gs 0 0 []).2.2.2))), bB true (book (lineP slope shift base (last8 (run15 gs 0 0 []).2.2.2)))] else k (.exit 0) [.bool false, pt 1, pt 2, w63 slope, w63 shift, w63 base, sl 0 n 2, w63 (run15 gs 0 0 []).2.2.1, sl 0 n 2, w63 n, w63 (run15 gs 0 0 []).2.1]
        [gB n gs, bB true (book (lineP slope 0 0 (last8 (run15 gs 0 0 []).2.2.2))), bB true (book (lineP slope shift base (last8 (run15 gs 0 0 []).2.2.2)))] else none
  | _, _ => none
noncomputable def L15 : LSpec := oneL 9 live15 L15f
--CF cf15 (n : Nat) (gs : List Int) (slope shift base : Int) :: fnK Try.prog S15 L15 Try.f15 [sl 0 n 2, w63 slope, w63 shift, w63 base] [gB n gs]
theorem cf15 (n : Nat) (gs : List Int) (slope shift base : Int) : fnK Try.prog S15 L15 Try.f15 [sl 0 n 2, w63 slope, w63 shift, w63 base] [gB n gs] =
     (bif decide ((↑n : Int) > 12) then some (Res.ret (Value.bool true) [some (Blk.mk false 1 [Seg.ints IntKind.i64 n gs])]) else bif decide (slope < -9) then some (Res.ret (Value.bool true) [some (Blk.mk
     false 1 [Seg.ints IntKind.i64 n gs])]) else bif decide (slope > 9) then some (Res.ret (Value.bool true) [some (Blk.mk false 1 [Seg.ints IntKind.i64 n gs])]) else bif decide (shift < -1000) then some
     (Res.ret (Value.bool true) [some (Blk.mk false 1 [Seg.ints IntKind.i64 n gs])]) else bif decide (shift > 1000) then some (Res.ret (Value.bool true) [some (Blk.mk false 1 [Seg.ints IntKind.i64 n gs])])
     else bif decide (base < 0) then some (Res.ret (Value.bool true) [some (Blk.mk false 1 [Seg.ints IntKind.i64 n gs])]) else bif decide (base > 1152921504606846976) then some (Res.ret (Value.bool true)
     [some (Blk.mk false 1 [Seg.ints IntKind.i64 n gs])]) else bif chk (n = n ∧ n = n ∧ (↑n : Int) = (↑n : Int) ∧ n ≤ 12 ∧ b0 = book [] ∧ b0 = book [] ∧ -9 ≤ slope ∧ slope ≤ 9 ∧ -1000 ≤ shift ∧ shift ≤
     1000 ∧ 0 ≤ base ∧ base ≤ 1152921504606846976) then bif (run15 gs 0 0 []).fst then some (Res.ret (Value.bool true) [some (Blk.mk false 1 [Seg.ints IntKind.i64 n gs])]) else bif decide ((↑n : Int) < 3)
     then bif chk (rateOK (book (lineP slope 0 0 (last8 (run15 gs 0 0 []).snd.snd.snd)))) then bif rateX (book (lineP slope 0 0 (last8 (run15 gs 0 0 []).snd.snd.snd))) == 0 then bif chk (rateOK (book
     (lineP slope shift base (last8 (run15 gs 0 0 []).snd.snd.snd)))) then bif rateX (book (lineP slope shift base (last8 (run15 gs 0 0 []).snd.snd.snd))) == 0 then some (Res.ret (Value.bool true) [some
     (Blk.mk false 1 [Seg.ints IntKind.i64 n gs])]) else some (Res.ret (Value.bool false) [some (Blk.mk false 1 [Seg.ints IntKind.i64 n gs])]) else none else some (Res.ret (Value.bool false) [some (Blk.mk
     false 1 [Seg.ints IntKind.i64 n gs])]) else none else bif chk (rateOK (book (lineP slope 0 0 (last8 (run15 gs 0 0 []).snd.snd.snd)))) then bif rateX (book (lineP slope 0 0 (last8 (run15 gs 0 0
     []).snd.snd.snd))) == if -134217 > if 134217 < IntKind.i64.wrap (slope * 3600) then 134217 else IntKind.i64.wrap (slope * 3600) then -134217 else if 134217 < IntKind.i64.wrap (slope * 3600) then
     134217 else IntKind.i64.wrap (slope * 3600) then bif chk (rateOK (book (lineP slope shift base (last8 (run15 gs 0 0 []).snd.snd.snd)))) then bif rateX (book (lineP slope shift base (last8 (run15 gs 0
     0 []).snd.snd.snd))) == if -134217 > if 134217 < IntKind.i64.wrap (slope * 3600) then 134217 else IntKind.i64.wrap (slope * 3600) then -134217 else if 134217 < IntKind.i64.wrap (slope * 3600) then
     134217 else IntKind.i64.wrap (slope * 3600) then some (Res.ret (Value.bool true) [some (Blk.mk false 1 [Seg.ints IntKind.i64 n gs])]) else some (Res.ret (Value.bool false) [some (Blk.mk false 1
     [Seg.ints IntKind.i64 n gs])]) else none else some (Res.ret (Value.bool false) [some (Blk.mk false 1 [Seg.ints IntKind.i64 n gs])]) else none else none) := by kernel_rfl
--CFEND

theorem last8_add (l : List Int) (x : Int) : last8 (l ++ [x]) = (if (last8 l).length = 8 then (last8 l).tail else last8 l) ++ [x] := by
  unfold last8
  rw [List.length_append, List.length_drop, List.length_singleton]
  by_cases h : 8 ≤ l.length
  · rw [if_pos (by omega), List.tail_drop, List.drop_append_of_le_length (by omega), show l.length + 1 - 8 = l.length - 8 + 1 by omega]
  · rw [if_neg (by omega), List.drop_append_of_le_length (by omega), show l.length + 1 - 8 = 0 by omega, show l.length - 8 = 0 by omega]
theorem push_line (s sh b x : Int) (l : List Int) : pushP (lineP s sh b (last8 l)) (b + x * 1000000000, s * x + sh) = lineP s sh b (last8 (l ++ [x])) := by
  rw [last8_add]
  unfold pushP
  rw [line_len]
  split
  · unfold lineP; rw [List.map_append, List.map_tail]; rfl
  · unfold lineP; rw [List.map_append]; rfl
theorem last8_len (l : List Int) : (last8 l).length = min l.length 8 := by unfold last8; rw [List.length_drop]; omega
theorem last8_mem {l : List Int} {a : Int} (h : a ∈ last8 l) : a ∈ l := List.mem_of_mem_drop h
theorem rising_add {x : Int} : ∀ {l : List Int}, risingL l → (∀ a ∈ l, a < x) → risingL (l ++ [x])
  | [], _, _ => trivial
  | [a], _, h => ⟨h a (List.mem_cons_self ..), trivial⟩
  | _ :: b :: r, hr, h => ⟨hr.1, rising_add (l := b :: r) hr.2 (fun y hy => h y (List.mem_cons_of_mem _ hy))⟩
theorem rising_tail : ∀ {l : List Int}, risingL l → risingL l.tail
  | [], _ => trivial
  | [_], _ => trivial
  | _ :: _ :: _, h => h.2
theorem rising_drop : ∀ (n : Nat) {l : List Int}, risingL l → risingL (l.drop n)
  | 0, _, h => h
  | n + 1, l, h => by rw [← List.drop_tail]; exact rising_drop n (rising_tail h)
/-- What holds of the times. -/
structure Times (i : Nat) (t : Int) (ats : List Int) : Prop where
  len : ats.length = i
  rising : risingL ats
  low : ∀ a ∈ ats, 1 ≤ a
  top : ∀ a ∈ ats, a ≤ t
  t0 : 0 ≤ t
  t1 : t ≤ 4000 * i
theorem Times.next {i : Nat} {t g : Int} {ats : List Int} (h : Times i t ats) (h1 : 1 ≤ g) (h2 : g ≤ 4000) : Times (i + 1) (t + g) (ats ++ [t + g]) where
  len := by rw [List.length_append, h.len]; rfl
  rising := rising_add h.rising (fun a ha => by have := h.top a ha; omega)
  low := fun y ha => by
    rcases List.mem_append.1 ha with ha | ha
    · exact h.low y ha
    · have := List.mem_singleton.1 ha; have := h.t0; omega
  top := fun a ha => by
    rcases List.mem_append.1 ha with ha | ha
    · have := h.top a ha; omega
    · have := List.mem_singleton.1 ha; omega
  t0 := by have := h.t0; omega
  t1 := by have := h.t1; omega
theorem run_times : ∀ (gs : List Int) {i : Nat} {t : Int} {ats : List Int}, Times i t ats → (run15 gs i t ats).1 = false → Times (i + gs.length) (run15 gs i t ats).2.2.1 (run15 gs i t ats).2.2.2
  | [], _, _, _, h, _ => h
  | g :: r, i, t, ats, h, e => by
    unfold run15 at e ⊢
    cases hb : decide (g < 1) || decide (g > 4000) with
    | true => rw [hb] at e; cases e
    | false =>
      rw [hb] at e
      rw [condF] at e ⊢
      have hc : ¬ g < 1 ∧ ¬ g > 4000 := by simpa using hb
      have := run_times r (h.next (g := g) (by omega) (by omega)) e
      rwa [Nat.add_assoc, Nat.add_comm 1] at this
theorem times_ok {i : Nat} {t s sh b : Int} {ats : List Int} (h : Times i t ats) (hi : i ≤ 12) (a1 : -9 ≤ s) (a2 : s ≤ 9) (a3 : -1000 ≤ sh) (a4 : sh ≤ 1000) (a5 : 0 ≤ b) (a6 : b ≤ 1152921504606846976) : rateOK (book (lineP s sh b (last8 ats))) :=
  ⟨s, sh, b, last8 ats, rfl, by rw [last8_len]; omega, rising_drop _ h.rising, fun a ha => ⟨h.low a (last8_mem ha), by have := h.top a (last8_mem ha); have := h.t1; omega⟩, a1, a2, a3, a4, a5, a6⟩
theorem times_rate {i : Nat} {t s sh b : Int} {ats : List Int} (h : Times i t ats) : rateX (book (lineP s sh b (last8 ats))) = if i < 3 then 0 else clampI (3600 * s) (-134217) 134217 := by
  unfold rateX
  rw [points_book, line_len, last8_len, h.len]
  by_cases h3 : i < 3
  · rw [if_pos h3, if_pos (by omega)]
  · rw [if_neg h3, if_neg (by omega), slope_line (ats := last8 ats) (by rw [last8_len, h.len]; omega) (rising_drop _ h.rising)]
theorem chk_if {p : Prop} {α : Type} {a b c : α} (h : p) (e : a = c) : (bif chk p then a else b) = c := by rw [chk_t h]; exact e
theorem line_last {s sh b : Int} {l : List Int} {p : Int × Int} (h : (lineP s sh b l).getLast? = some p) : ∃ a ∈ l, p.1 = b + a * 1000000000 := by
  have := List.mem_of_getLast? h
  obtain ⟨a, ha, rfl⟩ := List.mem_map.1 this
  exact ⟨a, ha, rfl⟩
theorem loop15 {s sh b : Int} {n : Nat} {gs : List Int} (hn : n ≤ 12) (hl : gs.length = n) (a1 : -9 ≤ s) (a2 : s ≤ 9) (a3 : -1000 ≤ sh) (a4 : sh ≤ 1000) (a5 : 0 ≤ b) (a6 : b ≤ 1152921504606846976)
    {k : Exit → List Value → Heap → Out} : ∀ (r i : Nat) (t : Int) (ats : List Int), Times i t ats → i + r = n + 1 → r ≠ 0 →
      loopN Try.prog S15 noL Try.f15.ntmps 1 (loopOf Try.f15 0) live15 r [.bool false, pt 1, pt 2, w63 s, w63 sh, w63 b, sl 0 n 2, w63 t, sl 0 n 2, w63 n, w63 i] [gB n gs, bB true (book (lineP s 0 0 (last8 ats))), bB true (book (lineP s sh b (last8 ats)))] k =
      k (bif (run15 (gs.drop i) i t ats).1 then .ret else .exit 0) [.bool (run15 (gs.drop i) i t ats).1, pt 1, pt 2, w63 s, w63 sh, w63 b, sl 0 n 2, w63 (run15 (gs.drop i) i t ats).2.2.1, sl 0 n 2, w63 n, w63 (run15 (gs.drop i) i t ats).2.1]
        [gB n gs, bB true (book (lineP s 0 0 (last8 (run15 (gs.drop i) i t ats).2.2.2))), bB true (book (lineP s sh b (last8 (run15 (gs.drop i) i t ats).2.2.2)))] := by
  intro r
  induction r with
  | zero => intro i t ats _ _ h; exact (h rfl).elim
  | succ r ih =>
    intro i t ats ht hir _
    refine (loopN_succ ..).trans ((cf15r ..).trans ?_)
    by_cases hi : i < n
    · have hd : gs.drop i = gs.getD i 0 :: gs.drop (i + 1) := by
        rw [List.getD_eq_getElem?_getD, List.getElem?_eq_getElem (by omega), Option.getD_some]
        exact List.drop_eq_getElem_cons (by omega)
      have e1 : gs.getD (0 + (i : Int).toNat * 1) 0 = gs.getD i 0 := by rw [Int.toNat_natCast, Nat.mul_one, Nat.zero_add]
      have e3 : (0 + (i : Int).toNat * 1).blt n = true := by rw [Int.toNat_natCast, Nat.mul_one, Nat.zero_add]; exact blt_t hi
      rw [e3, e1, dec_t (show (i : Int) < n by omega), condT, dec_t (show (0 : Int) ≤ i by omega), Bool.and_self, condT, condT, snat i (by omega), hd]
      generalize hg : gs.getD i 0 = g at *
      have f0 := ht.t0
      have f1 := ht.t1
      unfold run15
      refine dc (fun c => ?_) (fun c1 => dc (fun c => ?_) (fun c2 => ?_))
      · rw [dec_t c, Bool.true_or]; rfl
      · rw [dec_f c1, dec_t c]; rfl
      · rw [dec_f c1, dec_f c2, Bool.or_self, condF]
        have w1 : IntKind.i64.wrap (t + g) = t + g := swrap (by omega) (by omega)
        have m1 := mulb (x := t + g) (B := 48000) a1 a2 (by omega) (by omega)
        have w2 : IntKind.i64.wrap (s * (t + g)) = s * (t + g) := swrap (by omega) (by omega)
        have w3 : IntKind.i64.wrap ((t + g) * 1000000000) = (t + g) * 1000000000 := swrap (by omega) (by omega)
        have w4 : IntKind.i64.wrap (s * (t + g) + sh) = s * (t + g) + sh := swrap (by omega) (by omega)
        have w5 : IntKind.i64.wrap (b + (t + g) * 1000000000) = b + (t + g) * 1000000000 := swrap (by omega) (by omega)
        simp only [w1, w2, w3, w4, w5]
        rw [dec_f (show ¬ s * (t + g) > 2000000 by omega), condF, dec_f (show ¬ s * (t + g) < -2000000 by omega), condF, points_book, points_book, push_line s sh b (t + g) ats]
        have pz := push_line s 0 0 (t + g) ats
        rw [Int.zero_add, Int.add_zero] at pz
        rw [pz]
        refine chk_if ⟨_, rfl, by rw [line_len, last8_len]; omega, by omega, by omega, fun p hp => ?_⟩ (chk_if ⟨_, rfl, by rw [line_len, last8_len]; omega, by omega, by omega, fun p hp => ?_⟩ ?_)
        · obtain ⟨a, ha, e⟩ := line_last hp
          have := ht.top a (last8_mem ha)
          rw [e]; omega
        · obtain ⟨a, ha, e⟩ := line_last hp
          have := ht.top a (last8_mem ha)
          rw [e]; omega
        · exact ih (i + 1) (t + g) (ats ++ [t + g]) (ht.next (by omega) (by omega)) (by omega) (by omega)
    · have : i = n := by omega
      subst this
      rw [dec_f (show ¬ (i : Int) < (i : Nat) by omega), condF, List.drop_of_length_le (by omega)]
      rfl
theorem S15_ok : SpecOK Try.prog S15 := mkS_cons ok65 (mkS_cons ok66 (mkS_cons ok67g (mkS_cons ok68g (mkS_nil _))))
theorem loopOK15 : LoopOK Try.prog Try.f15.ntmps 1 (loopOf Try.f15 0) live15 L15f := by
  refine LoopOK.of_rounds S15_ok follows_ok (L := noL) noL_ok ?_
  intro vs h k out hk
  unfold L15f at hk
  split at hk
  · obtain ⟨hb, hk2⟩ := bif_t hk
    obtain ⟨rfl, rfl, rfl, h4, rfl, rfl, h5, h6, h7, h8, h9, h10⟩ := chk_iff.1 hb
    have t0 : Times 0 0 [] := ⟨rfl, trivial, fun _ h => (by cases h), fun _ h => (by cases h), Int.le_refl _, by omega⟩
    cases hr : (run15 _ 0 0 []).1 with
    | true =>
      rw [hr, condT] at hk2
      refine ⟨_, _, _, hk2, fun real => ?_⟩
      have := loop15 h4 (real.wseg (i := 0) rfl) h5 h6 h7 h8 h9 h10 (k := fun e vs h => some (.at e (zipS live15 vs) h)) _ 0 0 [] t0 (Nat.zero_add _) (by omega)
      rw [List.drop_zero, hr] at this
      exact ⟨_, this⟩
    | false =>
      rw [hr, condF] at hk2
      refine ⟨_, _, _, hk2, fun real => ?_⟩
      have := loop15 h4 (real.wseg (i := 0) rfl) h5 h6 h7 h8 h9 h10 (k := fun e vs h => some (.at e (zipS live15 vs) h)) _ 0 0 [] t0 (Nat.zero_add _) (by omega)
      rw [List.drop_zero, hr] at this
      exact ⟨_, this⟩
  · cases hk
theorem loops15 : LoopsOK Try.prog L15 Try.f15.ntmps 1 (bodyOf Try.f15) := loops_one rfl (by kernel_rfl) loopOK15
theorem law15 {n : Nat} {gs : List Int} {slope shift base : Int} (hl : gs.length = n) : fnK Try.prog S15 L15 Try.f15 [sl 0 n 2, w63 slope, w63 shift, w63 base] [gB n gs] = some (.ret (.bool true) [gB n gs]) := by
  refine (cf15 ..).trans ?_
  refine dc (fun _ => rfl) (fun c1 => dc (fun _ => rfl) (fun c2 => dc (fun _ => rfl) (fun c3 => dc (fun _ => rfl) (fun c4 => dc (fun _ => rfl) (fun c5 => dc (fun _ => rfl) (fun c6 => dc (fun _ => rfl) (fun c7 => ?_)))))))
  refine chk_if ⟨rfl, rfl, rfl, by omega, rfl, rfl, by omega, by omega, by omega, by omega, by omega, by omega⟩ (bc (fun _ => rfl) (fun c8 => ?_))
  have t0 : Times 0 0 [] := ⟨rfl, trivial, fun _ h => (by cases h), fun _ h => (by cases h), Int.le_refl _, by omega⟩
  have T := run_times gs t0 c8
  rw [Nat.zero_add, hl] at T
  have o1 := times_ok (s := slope) (sh := 0) (b := 0) T (by omega) (by omega) (by omega) (by omega) (by omega) (by omega) (by omega)
  have o2 := times_ok (s := slope) (sh := shift) (b := base) T (by omega) (by omega) (by omega) (by omega) (by omega) (by omega) (by omega)
  have r1 := times_rate (s := slope) (sh := 0) (b := 0) T
  have r2 := times_rate (s := slope) (sh := shift) (b := base) T
  generalize (run15 gs 0 0 []).2.2.2 = ats at *
  refine dc (fun d => ?_) (fun d => ?_)
  · rw [if_pos (by omega)] at r1 r2
    rw [r1, r2]
    exact chk_if o1 (chk_if o2 rfl)
  · rw [if_neg (by omega)] at r1 r2
    rw [swrap (x := slope * 3600) (by omega) (by omega)]
    have e : (if (-134217 : Int) > if (134217 : Int) < slope * 3600 then 134217 else slope * 3600 then (-134217 : Int) else if (134217 : Int) < slope * 3600 then 134217 else slope * 3600) = clampI (3600 * slope) (-134217) 134217 := by
      unfold clampI; (repeat' split) <;> omega
    rw [e, r1, r2]
    refine chk_if o1 ?_
    rw [show (clampI (3600 * slope) (-134217) 134217 == clampI (3600 * slope) (-134217) 134217) = true from beq_self_eq_true _, condT, condT]
    exact chk_if o2 rfl
def F15 : FSpec := fun args h k => match args, h with
  | [.slice (some ⟨0, 0, none⟩) n 2, .int .i64 _, .int .i64 _, .int .i64 _], [some ⟨false, 1, [.ints .i64 m xs]⟩] =>
    bif Nat.beq m n then k (.bool true) [gB m xs] else none
  | _, _ => none
theorem ok15 : EntryOK Try.prog 15 F15 := by
  refine EntryOK.of_fn S15_ok follows_ok Try.func15 (by kernel_rfl) (by kernel_rfl) ?_
  intro args h k out hF
  unfold F15 at hF
  split at hF
  · obtain ⟨hb, hF2⟩ := bif_t hF
    have := beq_true hb
    subst this
    exact ⟨_, _, hF2, fun real => ⟨L15, loops15, law15 (real.segs (i := 0) rfl _ (List.mem_cons_self ..)).1⟩⟩
  · cases hF
theorem top15 {s sh b : Int} {n : Nat} {xs : List Int} {k : Value → Heap → Out} : F15 [sl 0 n 2, w63 s, w63 sh, w63 b] [gB n xs] k = k (.bool true) [gB n xs] := by
  show (bif Nat.beq n n then k (.bool true) [gB n xs] else none) = _
  rw [beq_t rfl, condT]
end Go.Proofs.Ytfgehfnlkakioaa.VC
