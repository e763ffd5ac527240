/- The document's numbers: sizes, proved. -/
import Derived.Test.YtfgehfnlkakioaaR6
namespace Go.Proofs.Ytfgehfnlkakioaa.VC
open Go Go.Proofs

/-- Values, nil slices told as slices of a block that holds nothing. -/
inductive NilW : List Value → List Value → Prop
  | nil : NilW [] []
  | same (v : Value) {vs vs2 : List Value} (h : NilW vs vs2) : NilW (v :: vs) (v :: vs2)
  | none (id c : Nat) {vs vs2 : List Value} (h : NilW vs vs2) : NilW (.slice none 0 0 :: vs) (.slice (some ⟨id, 0, none⟩) 0 c :: vs2)

theorem NilW.len {vs vs2 : List Value} (h : NilW vs vs2) : vs.length = vs2.length := by induction h <;> simp_all
theorem NilW.at {vs vs2 : List Value} (h : NilW vs vs2) : ∀ (ι : Map) (i : Nat) (v v2 v' : Value), vs[i]? = some v → vs2[i]? = some v2 → VR ι v v' → VR ι v2 v' := by
  intro ι
  induction h with
  | nil => intro i v v2 v' h; simp at h
  | same v _ ih =>
    intro i
    cases i with
    | zero => intro v v2 v' a b c; simp at a b; subst a b; exact c
    | succ i => intro v v2 v' a b c; exact ih i v v2 v' (by simpa using a) (by simpa using b) c
  | none id c _ ih =>
    intro i
    cases i with
    | zero => intro v v2 v' a b c; simp at a b; subst a b; exact c.nilAt
    | succ i => intro v v2 v' a b c; exact ih i v v2 v' (by simpa using a) (by simpa using b) c

theorem cell_none {k : IntKind} (i : Nat) : cell? [.ints k 0 []] i = none := by simp [cell?]
theorem segsOK_none {k : IntKind} : segsOK [.ints k 0 []] := fun s h => by
  rcases List.mem_cons.1 h with rfl | h
  · exact ⟨rfl, fun x hx => by cases hx⟩
  · cases h

theorem WeakS.nilS {live : List Nat} {vs vs2 : List Value} {h : Heap} {k : IntKind} {es : Nat} {own : Bool} (hn : live.Nodup) (hw : NilW vs vs2) : WeakS (zipS live vs) h (zipS live vs2) (h ++ [some ⟨own, es, [.ints k 0 []]⟩]) :=
  ⟨by simp, fun ι n base w a hs hr => ⟨hs.weak_zip hw.len hn (hw.at ι), HR_empty hr segsOK_none (cell_none), fun b hb => mods_empty hr hb⟩⟩

theorem bif_t {b : Bool} {α : Type} {x : α} {k : Option α} (h : (bif b then k else none) = some x) : b = true ∧ k = some x := by
  cases b with
  | false => cases h
  | true => exact ⟨rfl, h⟩

theorem RealS.wseg {s : Slots} {h : Heap} (hr : RealS s h) {i : Nat} {own : Bool} {es n : Nat} {k : IntKind} {xs : List Int} (hb : h[i]? = some (some ⟨own, es, [.ints k n xs]⟩)) : xs.length = n :=
  (hr.segs hb _ (List.mem_cons_self ..)).1

theorem digits_add_le {n m a b : Nat} (ha : a < BB ^ n) (hb : b < BB ^ m) : (digits (a + b)).length ≤ max n m + 1 := by
  apply digits_len_le
  have h1 : BB ^ n ≤ BB ^ (max n m) := Nat.pow_le_pow_right (by decide) (by omega)
  have h2 : BB ^ m ≤ BB ^ (max n m) := Nat.pow_le_pow_right (by decide) (by omega)
  have h3 : BB ^ (max n m + 1) = BB ^ (max n m) * 4294967296 := Nat.pow_succ ..
  omega

theorem loopOK96 : LoopOK Try.prog Try.f96.ntmps 2 (loopOf Try.f96 0) live96 L96f := by
  refine LoopOK.of_rounds_weak S95_ok follows_ok (L := noL) noL_ok ?_
  intro vs h k out hk
  unfold L96f at hk
  split at hk
  · rename_i n c m d ca p n1 xs m1 ys
    obtain ⟨hb, hk2⟩ := bif_t hk
    simp only [Bool.and_eq_true, beq_iff_eq] at hb
    obtain ⟨⟨⟨⟨⟨hx, hy⟩, hn⟩, hm⟩, rfl⟩, rfl⟩ := hb
    refine ⟨_, _, _, hk2, fun _ => ⟨_, _, WeakS.nilS (k := .u64) (es := 1) (own := true) (by decide) (.same _ (.same _ (.none 2 1 (.same _ (.same _ .nil))))), (digits (numW n xs + numW m ys)).length + 1, _, _, ?_, WeakS.refl _ _⟩⟩
    have h1 := numW_lt hx
    have h2 := numW_lt hy
    have h3 := (normB_iff.1 hx).2.2
    have h4 := (normB_iff.1 hy).2.2
    have h5 := digits_add_le h1 h2
    have := loop96 hx hy (ble_true hn) (ble_true hm) (c := c) (d := d) (k := fun e vs h => some (.at e (zipS live96 vs) h)) ((digits (numW n xs + numW m ys)).length + 1) 0 [] 0 (numW n xs + numW m ys) rfl (by omega) (by simp) (by omega) (by omega)
    simp only [Nat.zero_add, List.nil_append] at this
    exact this
  · cases hk

theorem loops_one {P : Program} {L : LSpec} {n m key : Nat} {c body : Code} {live : List Nat} {f : LF} (hL : L = oneL key live f) (hl : loops c = [body]) (hk : LoopOK P n m body live f) : LoopsOK P L n m c := by
  intro b hb live2 f2 h
  rw [hl] at hb
  rcases List.mem_cons.1 hb with rfl | hb
  · cases hx : loopKey b with
    | none => simp [hx] at h
    | some i =>
      simp only [hx, Option.bind_some, hL, oneL] at h
      cases hi : Nat.beq i key with
      | false => rw [hi] at h; cases h
      | true => rw [hi] at h; cases h; exact hk
  · cases hb

theorem loops96 : LoopsOK Try.prog L96 Try.f96.ntmps 2 (bodyOf Try.f96) := loops_one rfl (by kernel_rfl) loopOK96

noncomputable def F96 : FSpec := fun args h k => match args, h with
  | [.slice (some ⟨0, 0, none⟩) n _, .slice (some ⟨1, 0, none⟩) m _], [some ⟨false, 1, [.ints .u64 n1 xs]⟩, some ⟨false, 1, [.ints .u64 m1 ys]⟩] =>
    bif normB n xs && normB m ys && Nat.ble n n1 && Nat.ble m m1 then
      k (sl 2 (digits (numW n xs + numW m ys)).length 1) [wb n1 xs, wb m1 ys, ob (digits (numW n xs + numW m ys)).length (digits (numW n xs + numW m ys))] else none
  | _, _ => none

theorem ok96 : EntryOK Try.prog 96 F96 := by
  refine EntryOK.of_fn S95_ok follows_ok Try.func96 (by kernel_rfl) (by kernel_rfl) ?_
  intro args h k out hF
  unfold F96 at hF
  split at hF
  · rename_i n c m d n1 xs m1 ys
    obtain ⟨hb, hF⟩ := bif_t hF
    refine ⟨_, _, hF, fun _ => ⟨L96, loops96, ?_⟩⟩
    rw [cf96, hb]
    rfl
  · cases hF

theorem loopOK90 : LoopOK Try.prog Try.f90.ntmps 1 (loopOf Try.f90 0) live90 L90f := by
  refine LoopOK.of_rounds_weak S95_ok follows_ok (L := noL) noL_ok ?_
  intro vs h k out hk
  unfold L90f at hk
  split at hk
  · rename_i n c ca p n1 xs
    obtain ⟨hb, hk2⟩ := bif_t hk
    simp only [Bool.and_eq_true, beq_iff_eq, decide_eq_true_eq] at hb
    obtain ⟨⟨⟨⟨hx, hn⟩, hc0⟩, hc1⟩, rfl⟩ := hb
    refine ⟨_, _, _, hk2, fun _ => ⟨_, _, WeakS.nilS (k := .u64) (es := 1) (own := true) (by decide) (.same _ (.none 1 1 (.same _ (.same _ .nil)))), (digits (2 * numW n xs + ca.toNat)).length + 1, _, _, ?_, WeakS.refl _ _⟩⟩
    have h1 := numW_lt hx
    have h3 := (normB_iff.1 hx).2.2
    have h5 : (digits (2 * numW n xs + ca.toNat)).length ≤ n + 1 := digits_len_le (by rw [Nat.pow_succ]; show _ < BB ^ n * 4294967296; omega)
    have := loop90 hx (ble_true hn) (c := c) (k := fun e vs h => some (.at e (zipS live90 vs) h)) ((digits (2 * numW n xs + ca.toNat)).length + 1) 0 [] ca.toNat (2 * numW n xs + ca.toNat) rfl (by omega) (by simp) (by omega) (by omega)
    simp only [Nat.zero_add, List.nil_append, Int.toNat_of_nonneg hc0] at this
    exact this
  · cases hk
theorem loops90 : LoopsOK Try.prog L90 Try.f90.ntmps 1 (bodyOf Try.f90) := loops_one rfl (by kernel_rfl) loopOK90
def bN (b : Bool) : Nat := bif b then 1 else 0
noncomputable def F90 : FSpec := fun args h k => match args, h with
  | [.slice (some ⟨0, 0, none⟩) n _, .bool b], [some ⟨false, 1, [.ints .u64 n1 xs]⟩] =>
    bif normB n xs && Nat.ble n n1 then
      k (sl 1 (digits (2 * numW n xs + bN b)).length 1) [wb n1 xs, ob (digits (2 * numW n xs + bN b)).length (digits (2 * numW n xs + bN b))] else none
  | _, _ => none
theorem ok90 : EntryOK Try.prog 90 F90 := by
  refine EntryOK.of_fn S95_ok follows_ok Try.func90 (by kernel_rfl) (by kernel_rfl) ?_
  intro args h k out hF
  unfold F90 at hF
  split at hF
  · rename_i n c b n1 xs
    obtain ⟨hb, hF⟩ := bif_t hF
    refine ⟨_, _, hF, fun _ => ⟨L90, loops90, ?_⟩⟩
    rw [cf90, hb]
    cases b <;> rfl
  · cases hF

theorem loopOK94 : LoopOK Try.prog Try.f94.ntmps 2 (loopOf Try.f94 0) live94 L94f := by
  refine LoopOK.of_rounds_weak S95_ok follows_ok (L := noL) noL_ok ?_
  intro vs h k out hk
  unfold L94f at hk
  split at hk
  · rename_i n c m d ca p n1 xs m1 ys
    obtain ⟨hb, hk2⟩ := bif_t hk
    simp only [Bool.and_eq_true, beq_iff_eq] at hb
    obtain ⟨⟨⟨⟨⟨⟨hx, hy⟩, hn⟩, hm⟩, hle⟩, rfl⟩, rfl⟩ := hb
    have hle := ble_true hle
    refine ⟨_, _, _, hk2, fun _ => ⟨_, _, WeakS.nilS (k := .u64) (es := 1) (own := true) (by decide) (.same _ (.same _ (.none 2 1 (.same _ (.same _ .nil))))), n + 1, _, _, ?_, WeakS.refl _ _⟩⟩
    have := loop94 hx hy (ble_true hn) (ble_true hm) (c := c) (d := d) (k := fun e vs h => some (.at e (zipS live94 vs) h)) (n + 1) 0 [] 0 (numW n xs - numW m ys) rfl (by omega) (by omega) (by simp; omega) (by omega)
    simp only [Nat.sub_zero, List.nil_append] at this
    exact this
  · cases hk
theorem loops94 : LoopsOK Try.prog L94 Try.f94.ntmps 2 (bodyOf Try.f94) := loops_one rfl (by kernel_rfl) loopOK94
noncomputable def F94 : FSpec := fun args h k => match args, h with
  | [.slice (some ⟨0, 0, none⟩) n _, .slice (some ⟨1, 0, none⟩) m _], [some ⟨false, 1, [.ints .u64 n1 xs]⟩, some ⟨false, 1, [.ints .u64 m1 ys]⟩] =>
    bif normB n xs && normB m ys && Nat.ble n n1 && Nat.ble m m1 && Nat.ble (numW m ys) (numW n xs) then
      k (sl 2 n 1) [wb n1 xs, wb m1 ys, ob n (wordsN n (numW n xs - numW m ys))] else none
  | _, _ => none
theorem ok94 : EntryOK Try.prog 94 F94 := by
  refine EntryOK.of_fn S95_ok follows_ok Try.func94 (by kernel_rfl) (by kernel_rfl) ?_
  intro args h k out hF
  unfold F94 at hF
  split at hF
  · rename_i n c m d n1 xs m1 ys
    obtain ⟨hb, hF⟩ := bif_t hF
    refine ⟨_, _, hF, fun _ => ⟨L94, loops94, ?_⟩⟩
    rw [cf94, hb]
    rfl
  · cases hF

/-! larger -/
theorem swrap {x : Int} (h0 : -9223372036854775808 ≤ x) (h1 : x ≤ 9223372036854775807) : IntKind.i64.wrap x = x := by rw [wi64e]; omega

theorem loop92 {n c m d n1 m1 : Nat} {xs ys : List Int} (hx : normB n xs = true) (hy : normB m ys = true) (hn : n ≤ n1) (hm : m ≤ m1) {k : Exit → List Value → Heap → Out} :
    ∀ (r : Nat), r ≤ 3000000 → numW n xs / BB ^ r = numW m ys / BB ^ r →
      loopN Try.prog S95 noL Try.f92.ntmps 2 (loopOf Try.f92 0) live92 (r + 1) [sl 0 n c, sl 1 m d, w63 0, w63 ((r : Int) - 1)] [wb n1 xs, wb m1 ys] k =
      bif decide (numW n xs = numW m ys) then k (.exit 0) [sl 0 n c, sl 1 m d, w63 0, w63 (-1)] [wb n1 xs, wb m1 ys] else k .ret [sl 0 n c, sl 1 m d, w63 (cmpI (numW n xs) (numW m ys)), w63 (diffAt (numW n xs) (numW m ys) r : Nat)] [wb n1 xs, wb m1 ys] := by
  intro r
  induction r with
  | zero =>
    intro _ h
    rw [Nat.pow_zero, Nat.div_one, Nat.div_one] at h
    rw [loopN_succ, cf92r, dec_f (by omega), dec_t h]
    rfl
  | succ r ih =>
    intro hr h
    have e3 := divS (numW n xs) r
    have e4 := divS (numW m ys) r
    rw [e3, e4] at h
    have e1 : wordAt n xs (r : Int) = _ := wordAt_norm hx
    have e2 : wordAt m ys (r : Int) = _ := wordAt_norm hy
    have big : ∀ {u v : Nat}, u / BB ^ r < v / BB ^ r → u < v := fun {u v} q => by
      rcases Nat.lt_or_ge u v with h | h
      · exact h
      · have := Nat.div_le_div_right (c := BB ^ r) h; omega
    rw [loopN_succ, cf92r, show ((r + 1 : Nat) : Int) - 1 = (r : Int) by omega, e1, e2]
    simp only [dec_t (Int.natCast_nonneg r), ble_t hn, ble_t hm, Bool.and_self, cond_true]
    have b1 := @big (numW n xs) (numW m ys)
    have b2 := @big (numW m ys) (numW n xs)
    by_cases c1 : numW n xs / BB ^ r = numW m ys / BB ^ r
    · have hq := ih (by omega) c1
      rw [diffAt, if_pos c1]
      rw [dec_f (by rw [c1]; omega), dec_f (by rw [c1]; omega), swrap (by omega) (by omega)]
      exact hq
    · have ne : numW n xs ≠ numW m ys := fun e => c1 (by rw [e])
      rw [dec_f ne, diffAt, if_neg c1]
      generalize numW n xs / BB ^ r = a at *
      generalize numW m ys / BB ^ r = b at *
      unfold cmpI
      by_cases c2 : b < a
      · rw [dec_t (show ((a % BB : Nat) : Int) > ((b % BB : Nat) : Int) by
          have : a % BB = a % 4294967296 := rfl
          have : b % BB = b % 4294967296 := rfl
          omega), if_pos (b2 c2)]
        rfl
      · rw [dec_f (show ¬ ((a % BB : Nat) : Int) > ((b % BB : Nat) : Int) by
          have : a % BB = a % 4294967296 := rfl
          have : b % BB = b % 4294967296 := rfl
          omega), dec_t (show ((a % BB : Nat) : Int) < ((b % BB : Nat) : Int) by
          have : a % BB = a % 4294967296 := rfl
          have : b % BB = b % 4294967296 := rfl
          omega), if_neg (by have := b1 (by omega); omega), if_pos (b1 (by omega))]
        rfl

theorem loopOK92 : LoopOK Try.prog Try.f92.ntmps 2 (loopOf Try.f92 0) live92 L92f := by
  refine LoopOK.of_rounds S95_ok follows_ok (L := noL) noL_ok ?_
  intro vs h k out hk
  unfold L92f at hk
  split at hk
  · rename_i n c m d q p n1 xs m1 ys
    obtain ⟨hb, hk2⟩ := bif_t hk
    simp only [Bool.and_eq_true, beq_iff_eq] at hb
    obtain ⟨⟨⟨⟨⟨hx, hy⟩, hn⟩, hm⟩, rfl⟩, rfl⟩ := hb
    have h1 := numW_lt hx
    have h2 := numW_lt hy
    have h3 := (normB_iff.1 hx).2.2
    have h4 := (normB_iff.1 hy).2.2
    have z : ∀ {u v : Nat}, u < BB ^ v → v ≤ n + m + 1 → u / BB ^ (n + m + 1) = 0 := fun {u v} q1 q2 => Nat.div_eq_of_lt (Nat.lt_of_lt_of_le q1 (Nat.pow_le_pow_right (by decide) q2))
    have hl := fun k => loop92 hx hy (ble_true hn) (ble_true hm) (c := c) (d := d) (k := k) (n + m + 1) (by omega) (by rw [z h1 (by omega), z h2 (by omega)])
    rw [show ((n + m + 1 : Nat) : Int) - 1 = (n + m : Int) by omega] at hl
    rw [swrap (x := (n : Int) + m) (by omega) (by omega)]
    cases he : decide (numW n xs = numW m ys) with
    | true => rw [he] at hk2; exact ⟨_, _, _, hk2, fun _ => ⟨_, by rw [hl, he]; rfl⟩⟩
    | false => rw [he] at hk2; exact ⟨_, _, _, hk2, fun _ => ⟨_, by rw [hl, he]; rfl⟩⟩
  · cases hk
theorem loops92 : LoopsOK Try.prog (oneL 2 live92 L92f) Try.f92.ntmps 2 (bodyOf Try.f92) := loops_one rfl (by kernel_rfl) loopOK92
noncomputable def F92 : FSpec := fun args h k => match args, h with
  | [.slice (some ⟨0, 0, none⟩) n _, .slice (some ⟨1, 0, none⟩) m _], [some ⟨false, 1, [.ints .u64 n1 xs]⟩, some ⟨false, 1, [.ints .u64 m1 ys]⟩] =>
    bif normB n xs && normB m ys && Nat.ble n n1 && Nat.ble m m1 then
      k (w63 (cmpI (numW n xs) (numW m ys))) [wb n1 xs, wb m1 ys] else none
  | _, _ => none
theorem ok92 : EntryOK Try.prog 92 F92 := by
  refine EntryOK.of_fn S95_ok follows_ok Try.func92 (by kernel_rfl) (by kernel_rfl) ?_
  intro args h k out hF
  unfold F92 at hF
  split at hF
  · rename_i n c m d n1 xs m1 ys
    obtain ⟨hb, hF⟩ := bif_t hF
    refine ⟨_, _, hF, fun _ => ⟨_, loops92, ?_⟩⟩
    rw [cf92, hb, beq_self_eq_true]
    refine dc (fun c1 => ?_) (fun _ => rfl)
    simp only [cmpI, c1, Nat.lt_irrefl, if_false]
  · cases hF

/-! made -/
theorem loop93 {b : Bool} {n c n1 : Nat} {xs : List Int} (hx : words (xs.take n)) (hn : n ≤ n1) (hl : xs.length = n1) (h6 : n ≤ 1000000) {k : Exit → List Value → Heap → Out} :
    ∀ (r : Nat), r ≤ n → numW n xs = numW r xs →
      loopN Try.prog S95 noL Try.f93.ntmps 1 (loopOf Try.f93 0) live93 (r + 1) [.bool b, sl 0 n c, .pointer (some ⟨1, 0, none⟩), w63 r] [wb n1 xs, nb false] k =
      k (.exit 0) [.bool b, sl 0 n c, .pointer (some ⟨1, 0, none⟩), w63 ((digits (numW n xs)).length : Nat)] [wb n1 xs, nb false] := by
  intro r
  induction r with
  | zero =>
    intro _ h
    rw [loopN_succ, cf93r, dec_f (by omega), h]
    simp [numW, num, digits_zero]
  | succ r ih =>
    intro hr h
    have hw : words (xs.take (r + 1)) := fun x hx2 => hx x (by
      rw [show xs.take (r + 1) = (xs.take n).take (r + 1) by rw [List.take_take, Nat.min_eq_left hr]] at hx2
      exact List.mem_of_mem_take hx2)
    have ht : xs.take (r + 1) = xs.take r ++ [xs.getD r 0] := by
      rw [List.take_add_one, List.getD_eq_getElem?_getD, List.getElem?_eq_getElem (show r < xs.length by omega)]
      rfl
    rw [loopN_succ, cf93r, show ((r + 1 : Nat) : Int) - 1 = (r : Int) by omega, swrap (x := (r : Int)) (by omega) (by omega)]
    simp only [dec_t (show ((r + 1 : Nat) : Int) > 0 by omega), dec_t (Int.natCast_nonneg r), dec_t (show (r : Int) < n by omega), Bool.and_self, cond_true, Int.toNat_natCast, Nat.zero_add, Nat.mul_one, blt_t (show r < n1 by omega)]
    by_cases h0 : xs.getD r 0 = 0
    · rw [h0, beq_self_eq_true]
      rw [condT]
      have e : numW (r + 1) xs = numW r xs := by
        unfold numW
        rw [ht, num_snoc, h0, Int.toNat_zero, Nat.mul_zero, Nat.add_zero]
      rw [ih (by omega) (h.trans e)]
    · rw [beq_eq_false_iff_ne.2 h0]
      have : digits (numW n xs) = xs.take (r + 1) := by
        rw [h]
        unfold numW
        refine digits_num hw (.inr ?_)
        rw [List.length_take, Nat.min_eq_left (by omega), Nat.add_sub_cancel, ← getD_take _ (Nat.lt_succ_self r)]
        exact h0
      rw [this, List.length_take, Nat.min_eq_left (by omega), condF]

theorem loopOK93 : LoopOK Try.prog Try.f93.ntmps 1 (loopOf Try.f93 0) live93 L93f := by
  refine LoopOK.of_rounds S95_ok follows_ok (L := noL) noL_ok ?_
  intro vs h k out hk
  unfold L93f at hk
  split at hk
  · rename_i b n c p n1 xs
    obtain ⟨hb, hk2⟩ := bif_t hk
    simp only [Bool.and_eq_true, beq_iff_eq] at hb
    obtain ⟨⟨hx, hn⟩, rfl⟩ := hb
    obtain ⟨h1, h2⟩ := wordsB_iff.1 hx
    exact ⟨_, _, _, hk2, fun real => ⟨_, loop93 h1 (ble_true hn) (real.wseg (i := 0) rfl) h2 n (Nat.le_refl _) rfl⟩⟩
  · cases hk
theorem loops93 : LoopsOK Try.prog L93 Try.f93.ntmps 1 (bodyOf Try.f93) := loops_one rfl (by kernel_rfl) loopOK93

theorem VR.cap2 {ι : Map} {a : Option Addr} {n : Nat} {v : Value} (h : VR ι (.slice a n 1) v) : VR ι (.slice a n 2) v := by
  cases h with
  | slZero a => exact .slZero a
  | sl hi h0 h1 ht ha => exact .sl hi h0 h1 (fun h => by cases h) (fun h => by cases h)

/-- Two parts, the second one told with less. -/
theorem VR.agg2 {ι : Map} {a s s2 v : Value} (hs : ∀ v', VR ι s v' → VR ι s2 v') (h : VR ι (.agg #[a, s]) v) : VR ι (.agg #[a, s2]) v := by
  cases h with
  | agg h1 h2 =>
    refine .agg h1 fun i x y hx hy => ?_
    match i with
    | 0 => exact h2 0 x y hx hy
    | 1 =>
      simp at hx
      subst hx
      exact hs _ (h2 1 s y rfl hy)
    | i + 2 => simp at hx

theorem Weak.val {v v2 : Value} {h : Heap} (hv : ∀ (ι : Map) (v' : Value), VR ι v v' → VR ι v2 v') : Weak v h v2 h := ⟨fun _ _ _ x => x, fun ι _ _ v' _ x => hv ι v' x, fun _ _ x => x⟩

/-- A number: below 0, and its size in a block. -/
def nV (neg : Bool) (id v : Nat) : Value := .agg #[.bool neg, .slice (some ⟨id, 0, none⟩) (digits v).length 2]
noncomputable def F93 : FSpec := fun args h k => match args, h with
  | [.bool b, .slice (some ⟨0, 0, none⟩) n _], [some ⟨false, 1, [.ints .u64 n1 xs]⟩] =>
    bif wordsB n xs && Nat.ble n n1 then
      k (.agg #[.bool (b && decide (0 < numW n xs)), .slice (some ⟨0, 0, none⟩) (digits (numW n xs)).length 2]) [wb n1 xs] else none
  | _, _ => none
theorem ok93 : EntryOK Try.prog 93 F93 := by
  refine EntryOK.of_fn_weak S95_ok follows_ok Try.func93 (by kernel_rfl) (by kernel_rfl) ?_
  intro args h k out hF
  unfold F93 at hF
  split at hF
  · rename_i b n c n1 xs
    obtain ⟨hb, hF⟩ := bif_t hF
    have hw := hb
    simp only [Bool.and_eq_true] at hw
    obtain ⟨h1, h2⟩ := wordsB_iff.1 hw.1
    have h3 := num_lt h1
    have h4 : (xs.take n).length ≤ n := by rw [List.length_take]; omega
    have h5 : (digits (numW n xs)).length ≤ n := digits_len_le (Nat.lt_of_lt_of_le h3 (Nat.pow_le_pow_right (by decide) h4))
    refine ⟨_, _, hF, fun _ => ?_⟩
    rcases Nat.eq_zero_or_pos (numW n xs) with h0 | h0
    · refine ⟨L93, _, _, loops93, by rw [cf93, hb, beq_self_eq_true, h0]; rfl, Weak.val fun ι v' hv => ?_⟩
      rw [h0]
      simp only [Nat.lt_irrefl, decide_false, Bool.and_false, digits_zero, List.length_nil]
      exact VR.agg2 (fun v' h => h.nilAt) hv
    · have hd : ((digits (numW n xs)).length : Int) ≠ 0 := by rw [digits_pos (by omega)]; simp; omega
      refine ⟨L93, .agg #[.bool b, .slice (some ⟨0, 0, none⟩) (digits (numW n xs)).length (bif Nat.beq c 1 then 1 else 2)], _, loops93, ?_, Weak.val fun ι v' hv => ?_⟩
      · rw [cf93, hb, beq_self_eq_true, beq_eq_false_iff_ne.2 hd, dec_t (Int.natCast_nonneg _), dec_t (by omega), Int.sub_zero, Int.toNat_natCast]
        cases hc : c.beq 1 with
        | true => simp only [Bool.and_self, cond_true, cond_false]
        | false => simp only [Bool.and_self, Bool.false_and, cond_true, cond_false]
      · rw [decide_eq_true h0, Bool.and_true]
        refine VR.agg2 (fun v' h => ?_) hv
        cases hc : c.beq 1 with
        | true => rw [hc] at h; exact h.cap2
        | false => rw [hc] at h; exact h
  · cases hF
end Go.Proofs.Ytfgehfnlkakioaa.VC
