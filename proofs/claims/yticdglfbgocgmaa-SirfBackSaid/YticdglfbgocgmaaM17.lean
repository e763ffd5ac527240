/- sums: each, Fifteen; the document's: closed forms, and what they are. -/
import Derived.Test.YticdglfbgocgmaaBV
namespace Go.Proofs.Yticdglfbgocgmaa.VC
open Go Go.Proofs

theorem take_one0 {xs : List Int} {i : Nat} (h : i < xs.length) : xs.take (i + 1) = xs.take i ++ [xs.getD i 0] := by
  rw [List.take_succ_eq_append_getElem h, List.getD_eq_getElem?_getD, List.getElem?_eq_getElem h, Option.getD_some]
def sum15 (xs : List Int) : Int := xs.foldl (fun o x => (o + x) % 32768) 0
def FFf1 : FSpec := fun args h k => match args, h with
  | [.int .u8 x, .pointer (some ⟨0, 0, none⟩)], [some ⟨true, 1, [.ints .u16 1 [o]]⟩] => bif decide (0 ≤ x) && decide (x ≤ 255) then (bif decide (0 ≤ o) && decide (o < 32768) then k undef [some ⟨true, 1, [.ints .u16 1 [(o + x) % 32768]]⟩] else none) else none
  | _, _ => none
--CF cfFf1 (x o : Int) :: fnK Try.prog (mkS []) noL Try.f101 [u8v x, pt 0] [some ⟨true, 1, [.ints .u16 1 [o]]⟩]
theorem cfFf1 (x o : Int) : fnK Try.prog (mkS []) noL Try.f101 [u8v x, pt 0] [some ⟨true, 1, [.ints .u16 1 [o]]⟩] =
     (some (Res.ret (Value.tuple (Array.mk [])) [some (Blk.mk true 1 [Seg.ints IntKind.u16 1 [bits BinOp.and IntKind.u16 (IntKind.u16.wrap (o + IntKind.u16.wrap x)) 32767]])])) := by kernel_rfl
--CFEND
theorem okFf1 : EntryOK Try.prog 101 FFf1 := by
  refine EntryOK.of_paths (fn := Try.f101) follows_ok Try.func101 (by kernel_rfl) (by kernel_rfl) ?_
  intro args h k out hF
  unfold FFf1 at hF
  split at hF
  · rename_i x o
    obtain ⟨h1, hF⟩ := bif_t hF
    obtain ⟨h2, hF⟩ := bif_t hF
    simp only [Bool.and_eq_true, decide_eq_true_eq] at h1 h2
    refine ⟨_, _, hF, fun _ => ⟨_, noL, mk0, noL_ok, (cfFf1 x o).trans ?_⟩⟩
    have e : bits .and .u16 (IntKind.u16.wrap (o + IntKind.u16.wrap x)) 32767 = (o + x) % 32768 := by
      rw [wU16, wU16, Int.emod_eq_of_lt (a := x) (by omega) (by omega), Int.emod_eq_of_lt (a := o + x) (by omega) (by omega)]
      exact bits_low .u16 rfl (a := o + x) 15 (by omega) (by show o + x < 65536; omega) (by decide)
    rw [e]; rfl
  · cases hF
abbrev fn15 : Value := .func (.func 101) #[] #[pt 1]
abbrev o16 (o : Int) : Option Blk := some ⟨true, 1, [.ints .u16 1 [o]]⟩
def SEa : Spec := mkS [(101, true, FFf1)]
def liveEa : List Nat := [1, 6, 7, 8]
--CP pEa (o : Int) (n c i : Nat) (xs : List Int) (on : List Value → Heap → Out) (out : Exit → List Value → Heap → Out) :: roundK Try.prog (SEa.on [(9, true)]) noL Try.f97.ntmps 2 (loopOf Try.f97 0) liveEa [fn15, sl 0 n c, w63 n, w63 i] [rU n xs, o16 o] on out
theorem pEa (o : Int) (n c i : Nat) (xs : List Int) (on : List Value → Heap → Out) (out : Exit → List Value → Heap → Out)
    (w1 : -9223372036854775808 ≤ (↑i : Int) + (1 : Int) ∧ (↑i : Int) + (1 : Int) ≤ 9223372036854775807 := by omega)
    (h1 : (↑i : Int) < (↑n : Int) := by first | omega | assumption | rfl)
    (h2 : (0 : Int) ≤ (↑i : Int) := by first | omega | assumption | rfl)
    (h3 : i < n := by first | omega | assumption | rfl)
    (h4 : (0 : Int) ≤ xs.getD i (0 : Int) := by first | omega | assumption | rfl)
    (h5 : xs.getD i (0 : Int) ≤ (255 : Int) := by first | omega | assumption | rfl)
    (h6 : (0 : Int) ≤ o := by first | omega | assumption | rfl)
    (h7 : o < (32768 : Int) := by first | omega | assumption | rfl) : roundK Try.prog (SEa.on [(9, true)]) noL Try.f97.ntmps 2 (loopOf Try.f97 0) liveEa [fn15, sl 0 n c, w63 n, w63 i] [rU n xs, o16 o] on out =
     (on [Value.func (Fn.func (OfNat.ofNat (101 : Nat))) #[] #[Value.pointer (some (Addr.mk (1 : Nat) (0 : Nat) none))], Value.slice (some (Addr.mk (0 : Nat) (0 : Nat) none)) n c, Value.int IntKind.i64 (↑n
     : Int), Value.int IntKind.i64 ((↑i : Int) + (1 : Int))] [some (Blk.mk false (1 : Nat) [Seg.ints IntKind.u8 n xs]), some (Blk.mk true (1 : Nat) [Seg.ints IntKind.u16 (1 : Nat) [(o + xs.getD i (0 :
     Int)) % (32768 : Int)]])]) :=
  Eq.trans (b :=
     bif decide ((↑i : Int) < (↑n : Int)) then bif decide ((0 : Int) ≤ (↑i : Int)) && decide ((↑i : Int) < (↑n : Int)) then bif ((0 : Nat) + (↑i : Int).toNat * (1 : Nat)).blt n then bif decide ((0 : Int) ≤
     xs.getD ((0 : Nat) + (↑i : Int).toNat * (1 : Nat)) (0 : Int)) && decide (xs.getD ((0 : Nat) + (↑i : Int).toNat * (1 : Nat)) (0 : Int) ≤ (255 : Int)) then bif decide ((0 : Int) ≤ o) && decide (o <
     (32768 : Int)) then on [Value.func (Fn.func (OfNat.ofNat (101 : Nat))) #[] #[Value.pointer (some (Addr.mk (1 : Nat) (0 : Nat) none))], Value.slice (some (Addr.mk (0 : Nat) (0 : Nat) none)) n c,
     Value.int IntKind.i64 (↑n : Int), Value.int IntKind.i64 (IntKind.i64.wrap ((↑i : Int) + (1 : Int)))] [some (Blk.mk false (1 : Nat) [Seg.ints IntKind.u8 n xs]), some (Blk.mk true (1 : Nat) [Seg.ints
     IntKind.u16 (1 : Nat) [(o + xs.getD ((0 : Nat) + (↑i : Int).toNat * (1 : Nat)) (0 : Int)) % (32768 : Int)]])] else none else none else none else none else none) (by kernel_rfl) (by simp only [-eq_self, Int.toNat_natCast, Nat.mul_one, Nat.zero_add, swrap w1.1 w1.2]; exact (go_t (dec_t h1) (go_t (and_t (dec_t h2) (dec_t h1)) (go_t (blt_t h3) (go_t (and_t (dec_t h4) (dec_t h5)) (go_t (and_t (dec_t h6) (dec_t h7)) rfl))))))
--CFEND
--CP pEaX (o : Int) (n c i : Nat) (xs : List Int) (on : List Value → Heap → Out) (out : Exit → List Value → Heap → Out) :: roundK Try.prog (SEa.on [(9, false)]) noL Try.f97.ntmps 2 (loopOf Try.f97 0) liveEa [fn15, sl 0 n c, w63 n, w63 i] [rU n xs, o16 o] on out
theorem pEaX (o : Int) (n c i : Nat) (xs : List Int) (on : List Value → Heap → Out) (out : Exit → List Value → Heap → Out)
    (h1 : ¬(↑i : Int) < (↑n : Int) := by first | omega | assumption | rfl) : roundK Try.prog (SEa.on [(9, false)]) noL Try.f97.ntmps 2 (loopOf Try.f97 0) liveEa [fn15, sl 0 n c, w63 n, w63 i] [rU n xs, o16 o] on out =
     (out (Exit.exit (0 : Nat)) [Value.func (Fn.func (OfNat.ofNat (101 : Nat))) #[] #[Value.pointer (some (Addr.mk (1 : Nat) (0 : Nat) none))], Value.slice (some (Addr.mk (0 : Nat) (0 : Nat) none)) n c,
     Value.int IntKind.i64 (↑n : Int), Value.int IntKind.i64 (↑i : Int)] [some (Blk.mk false (1 : Nat) [Seg.ints IntKind.u8 n xs]), some (Blk.mk true (1 : Nat) [Seg.ints IntKind.u16 (1 : Nat) [o]])]) :=
  Eq.trans (by kernel_rfl) (go_f (dec_f h1) rfl)
--CFEND
noncomputable def LEaf : LF := fun vs h k => match vs, h with
  | [.func (.func 101) ⟨[]⟩ ⟨[.pointer (some ⟨1, 0, none⟩)]⟩, .slice (some ⟨0, 0, none⟩) n' c, .int .i64 m, .int .i64 0], [some ⟨false, 1, [.ints .u8 n xs]⟩, some ⟨true, 1, [.ints .u16 1 [0]]⟩] =>
    bif chk (n' = n ∧ m = n ∧ n ≤ 1000000) then k (.exit 0) [fn15, sl 0 n c, w63 n, w63 n] [rU n xs, o16 (sum15 xs)] else none
  | _, _ => none
noncomputable def LEa : LSpec := oneL 1 liveEa LEaf
--CP pEaF (n c : Nat) (xs : List Int) :: fnK Try.prog (mkS []) LEa Try.f97 [sl 0 n c, fn15] [rU n xs, o16 0]
theorem pEaF (n c : Nat) (xs : List Int)
    (h1 : n = n ∧ (↑n : Int) = (↑n : Int) ∧ n ≤ (1000000 : Nat) := by first | omega | assumption | rfl | ((repeat' with_reducible apply And.intro) <;> first | rfl | assumption | omega)) : fnK Try.prog (mkS []) LEa Try.f97 [sl 0 n c, fn15] [rU n xs, o16 0] =
     (some (Res.ret (Value.tuple (Array.mk [])) [some (Blk.mk false (1 : Nat) [Seg.ints IntKind.u8 n xs]), some (Blk.mk true (1 : Nat) [Seg.ints IntKind.u16 (1 : Nat) [sum15 xs]])])) :=
  Eq.trans (by kernel_rfl) (go_t (chk_t h1) rfl)
--CFEND
noncomputable def FEa15 : FSpec := fun args h k => match args, h with
  | [.slice (some ⟨0, 0, none⟩) n' _, .func (.func 101) ⟨[]⟩ ⟨[.pointer (some ⟨1, 0, none⟩)]⟩], [some ⟨false, 1, [.ints .u8 n xs]⟩, some ⟨true, 1, [.ints .u16 1 [0]]⟩] =>
    bif chk (n' = n ∧ n ≤ 1000000) then k undef [rU n xs, o16 (sum15 xs)] else none
  | _, _ => none
noncomputable def SFif : Spec := mkS [(97, true, FEa15)]
--CP pFif (n n' c : Nat) (xs : List Int) :: fnK Try.prog SFif noL Try.f69 [sl 0 n' c] [rU n xs]
theorem pFif (n n' c : Nat) (xs : List Int)
    (h1 : n' = n ∧ n ≤ (1000000 : Nat) := by first | omega | assumption | rfl | ((repeat' with_reducible apply And.intro) <;> first | rfl | assumption | omega)) : fnK Try.prog SFif noL Try.f69 [sl 0 n' c] [rU n xs] =
     (some (Res.ret (Value.int IntKind.u16 (sum15 xs)) [some (Blk.mk false (1 : Nat) [Seg.ints IntKind.u8 n xs])])) :=
  Eq.trans (by kernel_rfl) (go_t (chk_t h1) rfl)
--CFEND
noncomputable def FFif : FSpec := fun args h k => match args, h with
  | [.slice (some ⟨0, 0, none⟩) n' _], [some ⟨false, 1, [.ints .u8 n xs]⟩] => bif chk (n' = n ∧ n ≤ 1000000) then k (.int .u16 (sum15 xs)) [rU n xs] else none
  | _, _ => none
def liveFr : List Nat := [0, 2, 3, 4]
--CP pFr (s : Int) (n c i : Nat) (xs : List Int) (on : List Value → Heap → Out) (out : Exit → List Value → Heap → Out) :: roundK Try.prog ((mkS []).on [(8, true)]) noL Try.f70.ntmps 1 (loopOf Try.f70 0) liveFr [sl 0 n c, .int .u16 0, w63 s, w63 i] [rU n xs] on out
theorem pFr (s : Int) (n c i : Nat) (xs : List Int) (on : List Value → Heap → Out) (out : Exit → List Value → Heap → Out)
    (w1 : -9223372036854775808 ≤ xs.getD i (0 : Int) ∧ xs.getD i (0 : Int) ≤ 9223372036854775807 := by omega)
    (w2 : -9223372036854775808 ≤ s + xs.getD i (0 : Int) ∧ s + xs.getD i (0 : Int) ≤ 9223372036854775807 := by omega)
    (w3 : -9223372036854775808 ≤ (↑i : Int) + (1 : Int) ∧ (↑i : Int) + (1 : Int) ≤ 9223372036854775807 := by omega)
    (h1 : (↑i : Int) < (↑n : Int) := by first | omega | assumption | rfl)
    (h2 : (0 : Int) ≤ (↑i : Int) := by first | omega | assumption | rfl)
    (h3 : i < n := by first | omega | assumption | rfl) : roundK Try.prog ((mkS []).on [(8, true)]) noL Try.f70.ntmps 1 (loopOf Try.f70 0) liveFr [sl 0 n c, .int .u16 0, w63 s, w63 i] [rU n xs] on out =
     (on [Value.slice (some (Addr.mk (0 : Nat) (0 : Nat) none)) n c, Value.int IntKind.u16 (0 : Int), Value.int IntKind.i64 (s + xs.getD i (0 : Int)), Value.int IntKind.i64 ((↑i : Int) + (1 : Int))] [some
     (Blk.mk false (1 : Nat) [Seg.ints IntKind.u8 n xs])]) :=
  Eq.trans (b :=
     bif decide ((↑i : Int) < (↑n : Int)) then bif decide ((0 : Int) ≤ (↑i : Int)) && decide ((↑i : Int) < (↑n : Int)) then bif ((0 : Nat) + (↑i : Int).toNat * (1 : Nat)).blt n then on [Value.slice (some
     (Addr.mk (0 : Nat) (0 : Nat) none)) n c, Value.int IntKind.u16 (0 : Int), Value.int IntKind.i64 (IntKind.i64.wrap (s + IntKind.i64.wrap (xs.getD ((0 : Nat) + (↑i : Int).toNat * (1 : Nat)) (0 :
     Int)))), Value.int IntKind.i64 (IntKind.i64.wrap ((↑i : Int) + (1 : Int)))] [some (Blk.mk false (1 : Nat) [Seg.ints IntKind.u8 n xs])] else none else none else none) (by kernel_rfl) (by simp only [-eq_self, Int.toNat_natCast, Nat.mul_one, Nat.zero_add, swrap w1.1 w1.2, swrap w2.1 w2.2, swrap w3.1 w3.2]; exact (go_t (dec_t h1) (go_t (and_t (dec_t h2) (dec_t h1)) (go_t (blt_t h3) rfl))))
--CFEND
--CP pFrX (s : Int) (n c i : Nat) (xs : List Int) (on : List Value → Heap → Out) (out : Exit → List Value → Heap → Out) :: roundK Try.prog ((mkS []).on [(8, false)]) noL Try.f70.ntmps 1 (loopOf Try.f70 0) liveFr [sl 0 n c, .int .u16 0, w63 s, w63 i] [rU n xs] on out
theorem pFrX (s : Int) (n c i : Nat) (xs : List Int) (on : List Value → Heap → Out) (out : Exit → List Value → Heap → Out)
    (h1 : ¬(↑i : Int) < (↑n : Int) := by first | omega | assumption | rfl) : roundK Try.prog ((mkS []).on [(8, false)]) noL Try.f70.ntmps 1 (loopOf Try.f70 0) liveFr [sl 0 n c, .int .u16 0, w63 s, w63 i] [rU n xs] on out =
     (out (Exit.exit (0 : Nat)) [Value.slice (some (Addr.mk (0 : Nat) (0 : Nat) none)) n c, Value.int IntKind.u16 (0 : Int), Value.int IntKind.i64 s, Value.int IntKind.i64 (↑i : Int)] [some (Blk.mk false
     (1 : Nat) [Seg.ints IntKind.u8 n xs])]) :=
  Eq.trans (by kernel_rfl) (go_f (dec_f h1) rfl)
--CFEND
def sumI (xs : List Int) : Int := xs.foldl (fun o x => o + x) 0
noncomputable def LFrf : LF := fun vs h k => match vs, h with
  | [.slice (some ⟨0, 0, none⟩) n' c, .int .u16 0, .int .i64 0, .int .i64 0], [some ⟨false, 1, [.ints .u8 n xs]⟩] =>
    bif chk (n' = n ∧ n ≤ 1000000) then k (.exit 0) [sl 0 n c, .int .u16 0, w63 (sumI xs), w63 n] [rU n xs] else none
  | _, _ => none
noncomputable def LFr : LSpec := oneL 3 liveFr LFrf
--CF cfFrF (n n' c : Nat) (xs : List Int) :: fnK Try.prog (mkS []) LFr Try.f70 [sl 0 n' c] [rU n xs]
theorem cfFrF (n n' c : Nat) (xs : List Int) : fnK Try.prog (mkS []) LFr Try.f70 [sl 0 n' c] [rU n xs] =
     (bif chk (n' = n ∧ n ≤ 1000000) then some (Res.ret (Value.int IntKind.u16 (IntKind.u16.wrap ((sumI xs).tmod 32768))) [some (Blk.mk false 1 [Seg.ints IntKind.u8 n xs])]) else none) := by kernel_rfl
--CFEND
theorem sum15_rng (xs : List Int) (hx : ∀ x ∈ xs, 0 ≤ x ∧ x ≤ 255) : 0 ≤ sum15 xs ∧ sum15 xs < 32768 ∧ sum15 xs = sumI xs % 32768 ∧ 0 ≤ sumI xs ∧ sumI xs ≤ 255 * xs.length := by
  have key : ∀ (xs : List Int) (o s : Int), (∀ x ∈ xs, 0 ≤ x ∧ x ≤ 255) → o = s % 32768 → xs.foldl (fun o x => (o + x) % 32768) o = xs.foldl (fun o x => o + x) s % 32768 ∧ s ≤ xs.foldl (fun o x => o + x) s ∧ xs.foldl (fun o x => o + x) s ≤ s + 255 * xs.length := by
    intro xs
    induction xs with
    | nil => intro o s _ h; exact ⟨h, Int.le_refl _, by simp⟩
    | cons y r ih =>
      intro o s hx h
      have hy := hx y (List.mem_cons_self ..)
      obtain ⟨a, b, c⟩ := ih ((o + y) % 32768) (s + y) (fun x hx2 => hx x (List.mem_cons_of_mem _ hx2)) (by omega)
      rw [List.foldl_cons, List.foldl_cons, List.length_cons]
      exact ⟨a, by omega, by omega⟩
  obtain ⟨a, b, c⟩ := key xs 0 0 hx rfl
  unfold sum15 sumI
  rw [a]
  omega
theorem sum15_take {xs : List Int} {i : Nat} (h : i < xs.length) : sum15 (xs.take (i + 1)) = (sum15 (xs.take i) + xs.getD i 0) % 32768 := by
  have := take_one0 h
  rw [this]; unfold sum15; rw [List.foldl_append]; rfl
theorem sumI_take {xs : List Int} {i : Nat} (h : i < xs.length) : sumI (xs.take (i + 1)) = sumI (xs.take i) + xs.getD i 0 := by
  have := take_one0 h
  rw [this]; unfold sumI; rw [List.foldl_append]; rfl
theorem SEa_ok : SpecOK Try.prog SEa := mkS_cons okFf1 (mkS_nil _)
theorem getD_rng0 {xs : List Int} {i : Nat} (hx : ∀ x ∈ xs, 0 ≤ x ∧ x ≤ 255) (h : i < xs.length) : 0 ≤ xs.getD i 0 ∧ xs.getD i 0 ≤ 255 := by
  rw [List.getD_eq_getElem?_getD, List.getElem?_eq_getElem h]; exact hx _ (List.getElem_mem ..)
theorem loopEa {n c : Nat} {xs : List Int} (hn : n ≤ 1000000) (hl : xs.length = n) (hx : ∀ x ∈ xs, 0 ≤ x ∧ x ≤ 255) : ∀ (r i : Nat), i + r = n →
    LoopT Try.prog Try.f97.ntmps 2 (loopOf Try.f97 0) (zipS liveEa [fn15, sl 0 n c, w63 n, w63 i]) [rU n xs, o16 (sum15 (xs.take i))] (.exit 0) (zipS liveEa [fn15, sl 0 n c, w63 n, w63 n]) [rU n xs, o16 (sum15 xs)] := by
  intro r
  induction r with
  | zero =>
    intro i hi
    obtain rfl : i = n := by omega
    rw [List.take_of_length_le (by omega)]
    exact LoopT.last (by intro h; cases h) (CodeT.out (SEa_ok.on _) noL_ok fun on out => pEaX _ i c i xs on out)
  | succ r ih =>
    intro i hi
    have hb := getD_rng0 hx (i := i) (by omega)
    have hs := sum15_rng (xs.take i) fun x h => hx x (List.mem_of_mem_take h)
    refine LoopT.step (CodeT.on (live := liveEa) (vs1 := [fn15, sl 0 n c, w63 n, w63 ((i + 1 : Nat) : Int)]) (h1 := [rU n xs, o16 (sum15 (xs.take (i + 1)))]) (SEa_ok.on [(9, true)]) noL_ok fun on out => (pEa _ n c i xs on out).trans ?_) (ih (i + 1) (by omega))
    rw [sum15_take (by omega)]; rfl
theorem loopOKEa : LoopOK Try.prog Try.f97.ntmps 2 (loopOf Try.f97 0) liveEa LEaf := by
  refine LoopOK.of_T ?_
  intro vs h k out hk
  unfold LEaf at hk
  split at hk
  · obtain ⟨hb, hk2⟩ := bif_t hk
    obtain ⟨rfl, rfl, h3⟩ := chk_iff.1 hb
    refine ⟨_, _, _, hk2, fun real => ?_⟩
    have hs := real.segs (i := 0) rfl rfl _ (List.mem_cons_self ..)
    exact loopEa h3 hs.1 (fun x hx => hs.2 x hx) _ 0 (Nat.zero_add _)
  · cases hk
theorem loopsEa : LoopsOK Try.prog LEa Try.f97.ntmps 2 (bodyOf Try.f97) := loops_one rfl (by kernel_rfl) loopOKEa
theorem okEa15 : EntryOK Try.prog 97 FEa15 := by
  refine EntryOK.of_paths (fn := Try.f97) follows_ok Try.func97 (by kernel_rfl) (by kernel_rfl) ?_
  intro args h k out hF
  unfold FEa15 at hF
  split at hF
  · obtain ⟨hb, hF2⟩ := bif_t hF
    obtain ⟨rfl, h2⟩ := chk_iff.1 hb
    exact ⟨_, _, hF2, fun _ => ⟨_, LEa, mk0, loopsEa, pEaF _ _ _⟩⟩
  · cases hF
theorem okFif : EntryOK Try.prog 69 FFif := by
  refine EntryOK.of_paths (fn := Try.f69) follows_ok Try.func69 (by kernel_rfl) (by kernel_rfl) ?_
  intro args h k out hF
  unfold FFif at hF
  split at hF
  · obtain ⟨hb, hF2⟩ := bif_t hF
    have hc := chk_iff.1 hb
    exact ⟨_, _, hF2, fun _ => ⟨SFif, noL, mkS_cons okEa15 (mkS_nil _), noL_ok, pFif _ _ _ _ hc⟩⟩
  · cases hF
theorem loopFr {n c : Nat} {xs : List Int} (hn : n ≤ 1000000) (hl : xs.length = n) (hx : ∀ x ∈ xs, 0 ≤ x ∧ x ≤ 255) : ∀ (r i : Nat), i + r = n →
    LoopT Try.prog Try.f70.ntmps 1 (loopOf Try.f70 0) (zipS liveFr [sl 0 n c, .int .u16 0, w63 (sumI (xs.take i)), w63 i]) [rU n xs] (.exit 0) (zipS liveFr [sl 0 n c, .int .u16 0, w63 (sumI xs), w63 n]) [rU n xs] := by
  intro r
  induction r with
  | zero =>
    intro i hi
    obtain rfl : i = n := by omega
    rw [List.take_of_length_le (by omega)]
    exact LoopT.last (by intro h; cases h) (CodeT.out (mk0.on _) noL_ok fun on out => pFrX _ i c i xs on out)
  | succ r ih =>
    intro i hi
    have hb := getD_rng0 hx (i := i) (by omega)
    have hs := sum15_rng (xs.take i) fun x h => hx x (List.mem_of_mem_take h)
    have hs2 := hs.2.2.2
    rw [List.length_take] at hs2
    refine LoopT.step (CodeT.on (live := liveFr) (vs1 := [sl 0 n c, .int .u16 0, w63 (sumI (xs.take (i + 1))), w63 ((i + 1 : Nat) : Int)]) (h1 := [rU n xs]) (mk0.on [(8, true)]) noL_ok fun on out => (pFr _ n c i xs on out).trans ?_) (ih (i + 1) (by omega))
    rw [sumI_take (by omega)]; rfl
theorem loopOKFr : LoopOK Try.prog Try.f70.ntmps 1 (loopOf Try.f70 0) liveFr LFrf := by
  refine LoopOK.of_T ?_
  intro vs h k out hk
  unfold LFrf at hk
  split at hk
  · obtain ⟨hb, hk2⟩ := bif_t hk
    obtain ⟨rfl, h3⟩ := chk_iff.1 hb
    refine ⟨_, _, _, hk2, fun real => ?_⟩
    have hs := real.segs (i := 0) rfl rfl _ (List.mem_cons_self ..)
    exact loopFr h3 hs.1 (fun x hx => hs.2 x hx) _ 0 (Nat.zero_add _)
  · cases hk
theorem loopsFr : LoopsOK Try.prog LFr Try.f70.ntmps 1 (bodyOf Try.f70) := loops_one rfl (by kernel_rfl) loopOKFr
theorem okFifR : EntryOK Try.prog 70 FFif := by
  refine EntryOK.of_paths (fn := Try.f70) follows_ok Try.func70 (by kernel_rfl) (by kernel_rfl) ?_
  intro args h k out hF
  unfold FFif at hF
  split at hF
  · obtain ⟨hb, hF2⟩ := bif_t hF
    have hc := chk_iff.1 hb
    refine ⟨_, _, hF2, fun real => ⟨_, LFr, mk0, loopsFr, (cfFrF _ _ _ _).trans (go_t (chk_t hc) ?_)⟩⟩
    have hs := real.segs (i := 0) rfl rfl _ (List.mem_cons_self ..)
    obtain ⟨g1, g2, g3, g4, g5⟩ := sum15_rng _ hs.2
    rw [Int.tmod_eq_emod_of_nonneg g4, wU16, g3, Int.emod_eq_of_lt (by omega) (by omega)]
  · cases hF
end Go.Proofs.Yticdglfbgocgmaa.VC
