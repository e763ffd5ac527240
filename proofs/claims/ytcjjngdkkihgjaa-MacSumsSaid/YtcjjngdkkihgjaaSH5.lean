/- SHA-256: a block's turn. -/
import Derived.Test.YtcjjngdkkihgjaaSH4
namespace Go.Proofs.Ytcjjngdkkihgjaa.VC
open Go Go.Proofs

noncomputable def FWds : FSpec := fun args h k => match args, h with
  | [.slice (some ⟨0, o, none⟩) 64 _], [some ⟨false, 1, [.ints .u8 N B]⟩] => bif chk (o + 64 ≤ N) then k (aggW 64 (sch B o)) [rU N B] else none
  | _, _ => none
theorem byt_of {N : Nat} {B : List Int} (h : segOK (.ints .u8 N B)) : ∀ x ∈ B, Byt x := fun x hx => by
  have e : IntKind.u8.max = 255 := by decide
  exact ⟨(h.2 x hx).1, e ▸ (h.2 x hx).2⟩
theorem okWds : EntryOK Try.prog 102 FWds := by
  refine EntryOK.of_paths (fn := Try.f102) follows_ok Try.func102 (by kernel_rfl) (by kernel_rfl) ?_
  intro args h k out hF
  unfold FWds at hF
  split at hF
  · obtain ⟨hb, hF2⟩ := bif_t hF
    have h1 := chk_iff.1 hb
    rename_i o c N B
    refine ⟨_, _, hF2, fun real => ⟨mkS [], LW, mk0, loopsW, ?_⟩⟩
    have hB := byt_of ((real.segs (i := 0) rfl) _ (List.mem_cons_self ..))
    have e1 : (wds B o 16 ++ List.replicate 48 0).drop 16 = List.replicate 48 0 := by rw [List.drop_left' (wds_len B o 16)]
    have e2 : (wds B o 16 ++ List.replicate 48 0).take 16 = wds B o 16 := by rw [List.take_left' (wds_len B o 16)]
    rw [cWds, e1, e2, chk_iff.2 ⟨rfl, h1⟩, chk_iff.2 ⟨rfl, wds_len B o 16, fun x hx => by obtain ⟨j, _, rfl⟩ := List.mem_map.1 hx; exact wd_W32 hB o j⟩]
    rfl
  · cases hF
/-- The numbers of an aggregate. -/
def numsV : Out → List Int
  | some (.ret (.agg cs) _) => cs.toList.map fun v => match v with | .int _ x => x | _ => 0
  | _ => []
/-- The constants of all rounds, and what is begun with, as the code tells them. -/
noncomputable def kC : List Int := numsV (fnK Try.prog (mkS []) noL Try.f103 [] [])
noncomputable def h0C : List Int := numsV (fnK Try.prog (mkS []) noL Try.f71 [] [])
theorem cRds : fnK Try.prog (mkS []) noL Try.f103 [] [] = some (.ret (aggW 64 kC) []) := by kernel_rfl
theorem cSta : fnK Try.prog (mkS []) noL Try.f71 [] [] = some (.ret (aggW 8 h0C) []) := by kernel_rfl
def live72 : List Nat := [18, 2, 4, 5, 6, 7]
noncomputable def S72 : Spec := mkS [(104, false, FRig)]
theorem S72_ok : SpecOK Try.prog S72 := mkS_cons okRig (mkS_nil _)
--CP p72 (N i : Nat) (B S Z w kk : List Int) (a b c d e f g h : Int) (on : List Value → Heap → Out) (out : Exit → List Value → Heap → Out) :: roundK Try.prog (S72.on [(19, true)]) noL Try.f72.ntmps 1 (loopOf Try.f72 0) live72 [w63 i, pt 1, pt 2, pt 3, pt 4, pt 5] [rU N B, oW 8 S, oW 8 Z, oW 64 w, oW 64 kk, oW 8 [a, b, c, d, e, f, g, h]] on out
theorem p72 (N i : Nat) (B S Z w kk : List Int) (a b c d e f g h : Int) (on : List Value → Heap → Out) (out : Exit → List Value → Heap → Out)
    (w1 : -9223372036854775808 ≤ (↑i : Int) + (1 : Int) ∧ (↑i : Int) + (1 : Int) ≤ 9223372036854775807 := by omega)
    (h1 : (↑i : Int) < (64 : Int) := by first | omega | assumption | rfl)
    (h2 : W32 e ∧ (1 : Int) ≤ (6 : Int) ∧ (6 : Int) ≤ (31 : Int) := by first | omega | assumption | rfl | ((repeat' with_reducible apply And.intro) <;> first | rfl | assumption | omega))
    (h3 : W32 e ∧ (1 : Int) ≤ (11 : Int) ∧ (11 : Int) ≤ (31 : Int) := by first | omega | assumption | rfl | ((repeat' with_reducible apply And.intro) <;> first | rfl | assumption | omega))
    (h4 : W32 e ∧ (1 : Int) ≤ (25 : Int) ∧ (25 : Int) ≤ (31 : Int) := by first | omega | assumption | rfl | ((repeat' with_reducible apply And.intro) <;> first | rfl | assumption | omega))
    (h5 : (0 : Int) ≤ (↑i : Int) := by first | omega | assumption | rfl)
    (h6 : i < (64 : Nat) := by first | omega | assumption | rfl)
    (h7 : W32 a ∧ (1 : Int) ≤ (2 : Int) ∧ (2 : Int) ≤ (31 : Int) := by first | omega | assumption | rfl | ((repeat' with_reducible apply And.intro) <;> first | rfl | assumption | omega))
    (h8 : W32 a ∧ (1 : Int) ≤ (13 : Int) ∧ (13 : Int) ≤ (31 : Int) := by first | omega | assumption | rfl | ((repeat' with_reducible apply And.intro) <;> first | rfl | assumption | omega))
    (h9 : W32 a ∧ (1 : Int) ≤ (22 : Int) ∧ (22 : Int) ≤ (31 : Int) := by first | omega | assumption | rfl | ((repeat' with_reducible apply And.intro) <;> first | rfl | assumption | omega)) : roundK Try.prog (S72.on [(19, true)]) noL Try.f72.ntmps 1 (loopOf Try.f72 0) live72 [w63 i, pt 1, pt 2, pt 3, pt 4, pt 5] [rU N B, oW 8 S, oW 8 Z, oW 64 w, oW 64 kk, oW 8 [a, b, c, d, e, f, g, h]] on out =
     (on [Value.int IntKind.i64 ((↑i : Int) + (1 : Int)), Value.pointer (some (Addr.mk (1 : Nat) (0 : Nat) none)), Value.pointer (some (Addr.mk (2 : Nat) (0 : Nat) none)), Value.pointer (some (Addr.mk (3 :
     Nat) (0 : Nat) none)), Value.pointer (some (Addr.mk (4 : Nat) (0 : Nat) none)), Value.pointer (some (Addr.mk (5 : Nat) (0 : Nat) none))] [some (Blk.mk false (1 : Nat) [Seg.ints IntKind.u8 N B]), some
     (Blk.mk true (8 : Nat) [Seg.ints IntKind.u32 (8 : Nat) S]), some (Blk.mk true (8 : Nat) [Seg.ints IntKind.u32 (8 : Nat) Z]), some (Blk.mk true (64 : Nat) [Seg.ints IntKind.u32 (64 : Nat) w]), some
     (Blk.mk true (64 : Nat) [Seg.ints IntKind.u32 (64 : Nat) kk]), some (Blk.mk true (8 : Nat) [Seg.ints IntKind.u32 (8 : Nat) ((([a] ++ [a, b, c, d, e, f, g]).set (4 : Nat) (IntKind.u32.wrap (d +
     IntKind.u32.wrap (IntKind.u32.wrap (IntKind.u32.wrap (IntKind.u32.wrap (h + bits BinOp.xor IntKind.u32 (bits BinOp.xor IntKind.u32 (rotr e (6 : Nat)) (rotr e (11 : Nat))) (rotr e (25 : Nat))) + bits
     BinOp.xor IntKind.u32 (bits BinOp.and IntKind.u32 e f) (bits BinOp.and IntKind.u32 (bits BinOp.xor IntKind.u32 (4294967295 : Int) e) g)) + kk.getD i (0 : Int)) + w.getD i (0 : Int))))).set (0 : Nat)
     (IntKind.u32.wrap (IntKind.u32.wrap (IntKind.u32.wrap (IntKind.u32.wrap (IntKind.u32.wrap (h + bits BinOp.xor IntKind.u32 (bits BinOp.xor IntKind.u32 (rotr e (6 : Nat)) (rotr e (11 : Nat))) (rotr e
     (25 : Nat))) + bits BinOp.xor IntKind.u32 (bits BinOp.and IntKind.u32 e f) (bits BinOp.and IntKind.u32 (bits BinOp.xor IntKind.u32 (4294967295 : Int) e) g)) + kk.getD i (0 : Int)) + w.getD i (0 :
     Int)) + IntKind.u32.wrap (bits BinOp.xor IntKind.u32 (bits BinOp.xor IntKind.u32 (rotr a (2 : Nat)) (rotr a (13 : Nat))) (rotr a (22 : Nat)) + bits BinOp.xor IntKind.u32 (bits BinOp.xor IntKind.u32
     (bits BinOp.and IntKind.u32 a b) (bits BinOp.and IntKind.u32 a c)) (bits BinOp.and IntKind.u32 b c)))))])]) :=
  Eq.trans (b :=
     bif decide ((↑i : Int) < (64 : Int)) then bif chk (W32 e ∧ (1 : Int) ≤ (6 : Int) ∧ (6 : Int) ≤ (31 : Int)) then bif chk (W32 e ∧ (1 : Int) ≤ (11 : Int) ∧ (11 : Int) ≤ (31 : Int)) then bif chk (W32 e ∧
     (1 : Int) ≤ (25 : Int) ∧ (25 : Int) ≤ (31 : Int)) then bif decide ((0 : Int) ≤ (↑i : Int)) && decide ((↑i : Int) < (64 : Int)) then bif ((0 : Nat) + (↑i : Int).toNat * (1 : Nat)).blt (64 : Nat) then
     bif decide ((0 : Int) ≤ (↑i : Int)) && decide ((↑i : Int) < (64 : Int)) then bif ((0 : Nat) + (↑i : Int).toNat * (1 : Nat)).blt (64 : Nat) then bif chk (W32 a ∧ (1 : Int) ≤ (2 : Int) ∧ (2 : Int) ≤ (31
     : Int)) then bif chk (W32 a ∧ (1 : Int) ≤ (13 : Int) ∧ (13 : Int) ≤ (31 : Int)) then bif chk (W32 a ∧ (1 : Int) ≤ (22 : Int) ∧ (22 : Int) ≤ (31 : Int)) then on [Value.int IntKind.i64 (IntKind.i64.wrap
     ((↑i : Int) + (1 : Int))), Value.pointer (some (Addr.mk (1 : Nat) (0 : Nat) none)), Value.pointer (some (Addr.mk (2 : Nat) (0 : Nat) none)), Value.pointer (some (Addr.mk (3 : Nat) (0 : Nat) none)),
     Value.pointer (some (Addr.mk (4 : Nat) (0 : Nat) none)), Value.pointer (some (Addr.mk (5 : Nat) (0 : Nat) none))] [some (Blk.mk false (1 : Nat) [Seg.ints IntKind.u8 N B]), some (Blk.mk true (8 : Nat)
     [Seg.ints IntKind.u32 (8 : Nat) S]), some (Blk.mk true (8 : Nat) [Seg.ints IntKind.u32 (8 : Nat) Z]), some (Blk.mk true (64 : Nat) [Seg.ints IntKind.u32 (64 : Nat) w]), some (Blk.mk true (64 : Nat)
     [Seg.ints IntKind.u32 (64 : Nat) kk]), some (Blk.mk true (8 : Nat) [Seg.ints IntKind.u32 (8 : Nat) ((([a] ++ [a, b, c, d, e, f, g]).set (4 : Nat) (IntKind.u32.wrap (d + IntKind.u32.wrap
     (IntKind.u32.wrap (IntKind.u32.wrap (IntKind.u32.wrap (h + bits BinOp.xor IntKind.u32 (bits BinOp.xor IntKind.u32 (rotr e (6 : Nat)) (rotr e (11 : Nat))) (rotr e (25 : Nat))) + bits BinOp.xor
     IntKind.u32 (bits BinOp.and IntKind.u32 e f) (bits BinOp.and IntKind.u32 (bits BinOp.xor IntKind.u32 (4294967295 : Int) e) g)) + kk.getD ((0 : Nat) + (↑i : Int).toNat * (1 : Nat)) (0 : Int)) + w.getD
     ((0 : Nat) + (↑i : Int).toNat * (1 : Nat)) (0 : Int))))).set (0 : Nat) (IntKind.u32.wrap (IntKind.u32.wrap (IntKind.u32.wrap (IntKind.u32.wrap (IntKind.u32.wrap (h + bits BinOp.xor IntKind.u32 (bits
     BinOp.xor IntKind.u32 (rotr e (6 : Nat)) (rotr e (11 : Nat))) (rotr e (25 : Nat))) + bits BinOp.xor IntKind.u32 (bits BinOp.and IntKind.u32 e f) (bits BinOp.and IntKind.u32 (bits BinOp.xor IntKind.u32
     (4294967295 : Int) e) g)) + kk.getD ((0 : Nat) + (↑i : Int).toNat * (1 : Nat)) (0 : Int)) + w.getD ((0 : Nat) + (↑i : Int).toNat * (1 : Nat)) (0 : Int)) + IntKind.u32.wrap (bits BinOp.xor IntKind.u32
     (bits BinOp.xor IntKind.u32 (rotr a (2 : Nat)) (rotr a (13 : Nat))) (rotr a (22 : Nat)) + bits BinOp.xor IntKind.u32 (bits BinOp.xor IntKind.u32 (bits BinOp.and IntKind.u32 a b) (bits BinOp.and
     IntKind.u32 a c)) (bits BinOp.and IntKind.u32 b c)))))])] else none else none else none else none else none else none else none else none else none else none else none) (by kernel_rfl) (by simp only [-eq_self, Int.toNat_natCast, Nat.mul_one, Nat.zero_add, swrap w1.1 w1.2]; exact (go_t (dec_t h1) (go_t (chk_t h2) (go_t (chk_t h3) (go_t (chk_t h4) (go_t (and_t (dec_t h5) (dec_t h1)) (go_t (blt_t h6) (go_t (and_t (dec_t h5) (dec_t h1)) (go_t (blt_t h6) (go_t (chk_t h7) (go_t (chk_t h8) (go_t (chk_t h9) rfl))))))))))))
--CFEND
--CP p72x (N : Nat) (B S Z w kk n : List Int) (on : List Value → Heap → Out) (out : Exit → List Value → Heap → Out) :: roundK Try.prog (S72.on [(19, false)]) noL Try.f72.ntmps 1 (loopOf Try.f72 0) live72 [w63 64, pt 1, pt 2, pt 3, pt 4, pt 5] [rU N B, oW 8 S, oW 8 Z, oW 64 w, oW 64 kk, oW 8 n] on out
theorem p72x (N : Nat) (B S Z w kk n : List Int) (on : List Value → Heap → Out) (out : Exit → List Value → Heap → Out) : roundK Try.prog (S72.on [(19, false)]) noL Try.f72.ntmps 1 (loopOf Try.f72 0) live72 [w63 64, pt 1, pt 2, pt 3, pt 4, pt 5] [rU N B, oW 8 S, oW 8 Z, oW 64 w, oW 64 kk, oW 8 n] on out =
     (out (Exit.exit (0 : Nat)) [Value.int IntKind.i64 (64 : Int), Value.pointer (some (Addr.mk (1 : Nat) (0 : Nat) none)), Value.pointer (some (Addr.mk (2 : Nat) (0 : Nat) none)), Value.pointer (some
     (Addr.mk (3 : Nat) (0 : Nat) none)), Value.pointer (some (Addr.mk (4 : Nat) (0 : Nat) none)), Value.pointer (some (Addr.mk (5 : Nat) (0 : Nat) none))] [some (Blk.mk false (1 : Nat) [Seg.ints
     IntKind.u8 N B]), some (Blk.mk true (8 : Nat) [Seg.ints IntKind.u32 (8 : Nat) S]), some (Blk.mk true (8 : Nat) [Seg.ints IntKind.u32 (8 : Nat) Z]), some (Blk.mk true (64 : Nat) [Seg.ints IntKind.u32
     (64 : Nat) w]), some (Blk.mk true (64 : Nat) [Seg.ints IntKind.u32 (64 : Nat) kk]), some (Blk.mk true (8 : Nat) [Seg.ints IntKind.u32 (8 : Nat) n])]) :=
  Eq.trans (by kernel_rfl) rfl
--CFEND
def live72b : List Nat := [92, 2, 4, 7]
--CP p72b (N : Nat) (B Z : List Int) (a b c d e f g h s t u v w x y z : Int) :: loopN Try.prog (mkS []) noL Try.f72.ntmps 1 (loopOf Try.f72 1) live72b 9 [w63 0, pt 1, pt 2, pt 3] [rU N B, oW 8 [s, t, u, v, w, x, y, z], oW 8 Z, oW 8 [a, b, c, d, e, f, g, h]] (fun e vs h => some (.at e (zipS live72b vs) h))
theorem p72b (N : Nat) (B Z : List Int) (a b c d e f g h s t u v w x y z : Int) : loopN Try.prog (mkS []) noL Try.f72.ntmps 1 (loopOf Try.f72 1) live72b 9 [w63 0, pt 1, pt 2, pt 3] [rU N B, oW 8 [s, t, u, v, w, x, y, z], oW 8 Z, oW 8 [a, b, c, d, e, f, g, h]] (fun e vs h => some (.at e (zipS live72b vs) h)) =
     (some (Res.at (Exit.exit (2 : Nat)) [((92 : Nat), some (Value.int IntKind.i64 (8 : Int))), ((2 : Nat), some (Value.pointer (some (Addr.mk (1 : Nat) (0 : Nat) none)))), ((4 : Nat), some (Value.pointer
     (some (Addr.mk (2 : Nat) (0 : Nat) none)))), ((7 : Nat), some (Value.pointer (some (Addr.mk (3 : Nat) (0 : Nat) none))))] [some (Blk.mk false (1 : Nat) [Seg.ints IntKind.u8 N B]), some (Blk.mk true (8
     : Nat) [Seg.ints IntKind.u32 (8 : Nat) [s, t, u, v, w, x, y, z]]), some (Blk.mk true (8 : Nat) [Seg.ints IntKind.u32 (8 : Nat) Z]), some (Blk.mk true (8 : Nat) [Seg.ints IntKind.u32 (8 : Nat)
     [IntKind.u32.wrap (a + s), IntKind.u32.wrap (b + t), IntKind.u32.wrap (c + u), IntKind.u32.wrap (d + v), IntKind.u32.wrap (e + w), IntKind.u32.wrap (f + x), IntKind.u32.wrap (g + y), IntKind.u32.wrap
     (h + z)]])])) :=
  Eq.trans (by kernel_rfl) rfl
--CFEND
/-- A round. -/
def tA (e f g h k w : Int) : Int := h + bs1 e + cho e f g + k + w
def tB (a b c : Int) : Int := bs0 a + maj a b c
def rndL : List Int → Int → Int → List Int
  | [a, b, c, d, e, f, g, h], k, w => [w32 (tA e f g h k w + tB a b c), a, b, c, w32 (d + tA e f g h k w), e, f, g]
  | l, _, _ => l
def rnds (w kk : List Int) : Nat → Nat → List Int → List Int
  | 0, _, n => n
  | m + 1, i, n => rnds w kk m (i + 1) (rndL n (kk.getD i 0) (w.getD i 0))
theorem len8 {n : List Int} (h : n.length = 8) : ∃ a b c d e f g i, n = [a, b, c, d, e, f, g, i] := by
  match n, h with
  | [a, b, c, d, e, f, g, i], _ => exact ⟨a, b, c, d, e, f, g, i, rfl⟩
theorem rndL_ok {n : List Int} (hn : n.length = 8) (h : ∀ x ∈ n, W32 x) (k w : Int) : (rndL n k w).length = 8 ∧ ∀ x ∈ rndL n k w, W32 x := by
  obtain ⟨a, b, c, d, e, f, g, i, rfl⟩ := len8 hn
  refine ⟨rfl, fun x hx => ?_⟩
  simp only [rndL, List.mem_cons, List.not_mem_nil, or_false] at hx
  rcases hx with rfl | rfl | rfl | rfl | rfl | rfl | rfl | rfl
  · exact W32.w _
  · exact h _ (by simp)
  · exact h _ (by simp)
  · exact h _ (by simp)
  · exact W32.w _
  · exact h _ (by simp)
  · exact h _ (by simp)
  · exact h _ (by simp)
theorem rnds_ok (w kk : List Int) : ∀ (m i : Nat) (n : List Int), n.length = 8 → (∀ x ∈ n, W32 x) → (rnds w kk m i n).length = 8 ∧ ∀ x ∈ rnds w kk m i n, W32 x
  | 0, _, _, h1, h2 => ⟨h1, h2⟩
  | m + 1, i, _, h1, h2 => rnds_ok w kk m (i + 1) _ (rndL_ok h1 h2 _ _).1 (rndL_ok h1 h2 _ _).2
theorem loop72 (N : Nat) (B S Z w kk : List Int) : ∀ (m i : Nat) (n : List Int), i + m = 64 → n.length = 8 → (∀ x ∈ n, W32 x) →
    LoopT Try.prog Try.f72.ntmps 1 (loopOf Try.f72 0) (zipS live72 [w63 i, pt 1, pt 2, pt 3, pt 4, pt 5]) [rU N B, oW 8 S, oW 8 Z, oW 64 w, oW 64 kk, oW 8 n] (.exit 0)
      (zipS live72 [w63 64, pt 1, pt 2, pt 3, pt 4, pt 5]) [rU N B, oW 8 S, oW 8 Z, oW 64 w, oW 64 kk, oW 8 (rnds w kk m i n)] := by
  intro m
  induction m with
  | zero =>
    intro i n hi _ _
    obtain rfl : i = 64 := hi
    exact LoopT.last (by simp) (CodeT.out (S := S72.on [(19, false)]) S72_ok noL_ok (fun on out => p72x N B S Z w kk n on out))
  | succ m ih =>
    intro i n hi h1 h2
    have h3 := rndL_ok h1 h2 (kk.getD i 0) (w.getD i 0)
    have hl := ih (i + 1) _ (by omega) h3.1 h3.2
    refine LoopT.step (CodeT.on (S := S72.on [(19, true)]) S72_ok noL_ok (fun on out => ?_)) hl
    obtain ⟨a, b, c, d, e, f, g, h, rfl⟩ := len8 h1
    have ha := h2 a (by simp)
    have hb := h2 b (by simp)
    have hc := h2 c (by simp)
    have he := h2 e (by simp)
    have hf := h2 f (by simp)
    have hg := h2 g (by simp)
    have hn : W32 (4294967295 - e) := ⟨by have := he.2; omega, by have := he.1; omega⟩
    rw [p72 N i B S Z w kk a b c d e f g h on out (by omega) (by omega) ⟨he, by omega, by omega⟩ ⟨he, by omega, by omega⟩ ⟨he, by omega, by omega⟩ (by omega) (by omega) ⟨ha, by omega, by omega⟩ ⟨ha, by omega, by omega⟩ ⟨ha, by omega, by omega⟩]
    rw [xor_u32 (he.rotr (by decide)) (he.rotr (by decide)), xor_u32 ((he.rotr (by decide)).xo (he.rotr (by decide))) (he.rotr (by decide)), xor_u32 (ha.rotr (by decide)) (ha.rotr (by decide)), xor_u32 ((ha.rotr (by decide)).xo (ha.rotr (by decide))) (ha.rotr (by decide)),
      not_u32 he, and_u32 he hf, and_u32 hn hg, xor_u32 (he.an hf) (hn.an hg), cho_xor he hf hg, and_u32 ha hb, and_u32 ha hc, and_u32 hb hc, xor_u32 (ha.an hb) (ha.an hc), xor_u32 ((ha.an hb).xo (ha.an hc)) (hb.an hc), maj_xor]
    show on _ _ = on _ _
    have e1 : IntKind.u32.wrap (d + IntKind.u32.wrap (IntKind.u32.wrap (IntKind.u32.wrap (IntKind.u32.wrap (h + bs1 e) + cho e f g) + kk.getD i 0) + w.getD i 0)) = w32 (d + tA e f g h (kk.getD i 0) (w.getD i 0)) := by
      simp only [wrap_u32]; unfold w32 tA; omega
    have e2 : IntKind.u32.wrap (IntKind.u32.wrap (IntKind.u32.wrap (IntKind.u32.wrap (IntKind.u32.wrap (h + bs1 e) + cho e f g) + kk.getD i 0) + w.getD i 0) + IntKind.u32.wrap (bs0 a + maj a b c)) = w32 (tA e f g h (kk.getD i 0) (w.getD i 0) + tB a b c) := by
      simp only [wrap_u32]; unfold w32 tA tB; omega
    show on [w63 ((i : Int) + 1), pt 1, pt 2, pt 3, pt 4, pt 5] [rU N B, oW 8 S, oW 8 Z, oW 64 w, oW 64 kk, oW 8 [IntKind.u32.wrap (IntKind.u32.wrap (IntKind.u32.wrap (IntKind.u32.wrap (IntKind.u32.wrap (h + bs1 e) + cho e f g) + kk.getD i 0) + w.getD i 0) + IntKind.u32.wrap (bs0 a + maj a b c)), a, b, c,
      IntKind.u32.wrap (d + IntKind.u32.wrap (IntKind.u32.wrap (IntKind.u32.wrap (IntKind.u32.wrap (h + bs1 e) + cho e f g) + kk.getD i 0) + w.getD i 0)), e, f, g]] = _
    rw [e1, e2]
    rfl
end Go.Proofs.Ytcjjngdkkihgjaa.VC
