/- RateOnce: the rounds. -/
import Derived.Test.YthdeanljgdjbhaaRO2
import Derived.Test.YthdeanljgdjbhaaMP
namespace Go.Proofs.Ythdeanljgdjbhaa.VC
open Go Go.Proofs

def live6 : List Nat := [6, 0, 2, 42, 43, 44, 7, 9, 10, 11]
abbrev st6 (g : Int) (N M : Nat) (i : Nat) (at' : Int) : List Value := [.bool false, w63 g, sl 1 M 2, sl 0 N 2, w63 N, w63 i, pt 2, .map (some 4), .map (some 5), w63 at']
abbrev hp6 (g z : Int) (N M : Nat) (ds ps : List Int) (E R K : List (Value × Value)) : Heap := [some ⟨false, 1, [.ints .u32 N ds]⟩, some ⟨false, 1, [.ints .u8 M ps]⟩, tB true g z 3, mpB true E, mpB true R, mpB true K]
noncomputable def S6a : Spec := mkS [(21, true, FAskA)]
noncomputable def S6 (v : Int) : Spec := mkS [(21, true, FAskO v)]
abbrev w16 (p : Int) : Value := .int .u16 p
--CP p6A (g z : Int) (N M i : Nat) (at' : Int) (ds ps : List Int) (E R K : List (Value × Value)) (on : List Value → Heap → Out) (out : Exit → List Value → Heap → Out) :: roundK Try.prog (S6a.on [(45, true), (61, false), (68, false), (98, true), (107, false), (108, false)]) noL Try.f6.ntmps 2 (loopOf Try.f6 0) live6 (st6 g N M i at') (hp6 g z N M ds ps E R K) on out
theorem p6A (g z : Int) (N M i : Nat) (at' : Int) (ds ps : List Int) (E R K : List (Value × Value)) (on : List Value → Heap → Out) (out : Exit → List Value → Heap → Out)
    (w1 : -9223372036854775808 ≤ ds.getD i (0 : Int) ∧ ds.getD i (0 : Int) ≤ 9223372036854775807 := by omega)
    (w2 : -9223372036854775808 ≤ at' + ds.getD i (0 : Int) ∧ at' + ds.getD i (0 : Int) ≤ 9223372036854775807 := by omega)
    (w3 : -9223372036854775808 ≤ (↑i : Int) + (1 : Int) ∧ (↑i : Int) + (1 : Int) ≤ 9223372036854775807 := by omega)
    (h1 : (↑i : Int) < (↑N : Int) := by first | omega | assumption | rfl)
    (h2 : (0 : Int) ≤ (↑i : Int) := by first | omega | assumption | rfl)
    (h3 : i < N := by first | omega | assumption | rfl)
    (h4 : (↑i : Int) < (↑M : Int) := by first | omega | assumption | rfl)
    (h5 : i < M := by first | omega | assumption | rfl)
    (h6 : keysV Try.prog (49 : Nat) (1 : Nat) (Value.int IntKind.u16 (IntKind.u16.wrap ((ps.getD i (0 : Int)).tmod (64 : Int)))) R = true := by first | omega | assumption | rfl)
    (h7 : missM Try.prog (49 : Nat) (Value.int IntKind.u16 (IntKind.u16.wrap ((ps.getD i (0 : Int)).tmod (64 : Int)))) R = true := by first | omega | assumption | rfl)
    (h8 : keysV Try.prog (49 : Nat) (1 : Nat) (Value.int IntKind.u16 (IntKind.u16.wrap ((ps.getD i (0 : Int)).tmod (64 : Int)))) K = true := by first | omega | assumption | rfl)
    (h9 : missM Try.prog (49 : Nat) (Value.int IntKind.u16 (IntKind.u16.wrap ((ps.getD i (0 : Int)).tmod (64 : Int)))) K = true := by first | omega | assumption | rfl)
    (h10 : keysV Try.prog (OfNat.ofNat (51 : Nat)) (5 : Nat) (addrV (IntKind.u16.wrap ((ps.getD i (0 : Int)).tmod (64 : Int)))) E = true ∧ missM Try.prog (OfNat.ofNat (51 : Nat)) (addrV (IntKind.u16.wrap ((ps.getD i (0 : Int)).tmod (64 : Int)))) E = true ∧ E.length < (64 : Nat) ∧ z ≤ at' + ds.getD i (0 : Int) := by first | omega | assumption | rfl | ((repeat' with_reducible apply And.intro) <;> first | rfl | assumption | omega)) : roundK Try.prog (S6a.on [(45, true), (61, false), (68, false), (98, true), (107, false), (108, false)]) noL Try.f6.ntmps 2 (loopOf Try.f6 0) live6 (st6 g N M i at') (hp6 g z N M ds ps E R K) on out =
     (on [Value.bool false, Value.int IntKind.i64 g, Value.slice (some (Addr.mk (1 : Nat) (0 : Nat) none)) M (2 : Nat), Value.slice (some (Addr.mk (0 : Nat) (0 : Nat) none)) N (2 : Nat), Value.int
     IntKind.i64 (↑N : Int), Value.int IntKind.i64 ((↑i : Int) + (1 : Int)), Value.pointer (some (Addr.mk (2 : Nat) (0 : Nat) none)), Value.map (some (4 : Nat)), Value.map (some (5 : Nat)), Value.int
     IntKind.i64 (at' + ds.getD i (0 : Int))] [some (Blk.mk false (1 : Nat) [Seg.ints IntKind.u32 N ds]), some (Blk.mk false (1 : Nat) [Seg.ints IntKind.u8 M ps]), some (Blk.mk true (3 : Nat) [Seg.ints
     IntKind.i64 (2 : Nat) [g, at' + ds.getD i (0 : Int)], Seg.vals [Value.map (some (3 : Nat))]]), some (Blk.mk true (0 : Nat) [Seg.mp true (E ++ [(addrV (IntKind.u16.wrap ((ps.getD i (0 : Int)).tmod (64
     : Int))), clV (at' + ds.getD i (0 : Int)) (at' + ds.getD i (0 : Int)) (0 : Int) false)])]), some (Blk.mk true (0 : Nat) [Seg.mp true (R ++ [(Value.int IntKind.u16 (IntKind.u16.wrap ((ps.getD i (0 :
     Int)).tmod (64 : Int))), Value.int IntKind.i64 (at' + ds.getD i (0 : Int)))])]), some (Blk.mk true (0 : Nat) [Seg.mp true K])]) :=
  Eq.trans (b :=
     bif decide ((↑i : Int) < (↑N : Int)) then bif decide ((0 : Int) ≤ (↑i : Int)) && decide ((↑i : Int) < (↑N : Int)) then bif ((0 : Nat) + (↑i : Int).toNat * (1 : Nat)).blt N then bif decide ((0 : Int) ≤
     (↑i : Int)) && decide ((↑i : Int) < (↑M : Int)) then bif ((0 : Nat) + (↑i : Int).toNat * (1 : Nat)).blt M then bif keysV Try.prog (49 : Nat) (1 : Nat) (Value.int IntKind.u16 (IntKind.u16.wrap
     ((ps.getD ((0 : Nat) + (↑i : Int).toNat * (1 : Nat)) (0 : Int)).tmod (64 : Int)))) R then bif missM Try.prog (49 : Nat) (Value.int IntKind.u16 (IntKind.u16.wrap ((ps.getD ((0 : Nat) + (↑i : Int).toNat
     * (1 : Nat)) (0 : Int)).tmod (64 : Int)))) R then bif keysV Try.prog (49 : Nat) (1 : Nat) (Value.int IntKind.u16 (IntKind.u16.wrap ((ps.getD ((0 : Nat) + (↑i : Int).toNat * (1 : Nat)) (0 : Int)).tmod
     (64 : Int)))) K then bif missM Try.prog (49 : Nat) (Value.int IntKind.u16 (IntKind.u16.wrap ((ps.getD ((0 : Nat) + (↑i : Int).toNat * (1 : Nat)) (0 : Int)).tmod (64 : Int)))) K then bif chk (keysV
     Try.prog (OfNat.ofNat (51 : Nat)) (5 : Nat) (addrV (IntKind.u16.wrap ((ps.getD ((0 : Nat) + (↑i : Int).toNat * (1 : Nat)) (0 : Int)).tmod (64 : Int)))) E = true ∧ missM Try.prog (OfNat.ofNat (51 :
     Nat)) (addrV (IntKind.u16.wrap ((ps.getD ((0 : Nat) + (↑i : Int).toNat * (1 : Nat)) (0 : Int)).tmod (64 : Int)))) E = true ∧ E.length < (64 : Nat) ∧ z ≤ IntKind.i64.wrap (at' + IntKind.i64.wrap
     (ds.getD ((0 : Nat) + (↑i : Int).toNat * (1 : Nat)) (0 : Int)))) then bif keysV Try.prog (49 : Nat) (1 : Nat) (Value.int IntKind.u16 (IntKind.u16.wrap ((ps.getD ((0 : Nat) + (↑i : Int).toNat * (1 :
     Nat)) (0 : Int)).tmod (64 : Int)))) R && true then bif missM Try.prog (49 : Nat) (Value.int IntKind.u16 (IntKind.u16.wrap ((ps.getD ((0 : Nat) + (↑i : Int).toNat * (1 : Nat)) (0 : Int)).tmod (64 :
     Int)))) R then on [Value.bool false, Value.int IntKind.i64 g, Value.slice (some (Addr.mk (1 : Nat) (0 : Nat) none)) M (2 : Nat), Value.slice (some (Addr.mk (0 : Nat) (0 : Nat) none)) N (2 : Nat),
     Value.int IntKind.i64 (↑N : Int), Value.int IntKind.i64 (IntKind.i64.wrap ((↑i : Int) + (1 : Int))), Value.pointer (some (Addr.mk (2 : Nat) (0 : Nat) none)), Value.map (some (4 : Nat)), Value.map
     (some (5 : Nat)), Value.int IntKind.i64 (IntKind.i64.wrap (at' + IntKind.i64.wrap (ds.getD ((0 : Nat) + (↑i : Int).toNat * (1 : Nat)) (0 : Int))))] [some (Blk.mk false (1 : Nat) [Seg.ints IntKind.u32
     N ds]), some (Blk.mk false (1 : Nat) [Seg.ints IntKind.u8 M ps]), some (Blk.mk true (3 : Nat) [Seg.ints IntKind.i64 (2 : Nat) [g, IntKind.i64.wrap (at' + IntKind.i64.wrap (ds.getD ((0 : Nat) + (↑i :
     Int).toNat * (1 : Nat)) (0 : Int)))], Seg.vals [Value.map (some (3 : Nat))]]), some (Blk.mk true (0 : Nat) [Seg.mp true (E ++ [(addrV (IntKind.u16.wrap ((ps.getD ((0 : Nat) + (↑i : Int).toNat * (1 :
     Nat)) (0 : Int)).tmod (64 : Int))), clV (IntKind.i64.wrap (at' + IntKind.i64.wrap (ds.getD ((0 : Nat) + (↑i : Int).toNat * (1 : Nat)) (0 : Int)))) (IntKind.i64.wrap (at' + IntKind.i64.wrap (ds.getD
     ((0 : Nat) + (↑i : Int).toNat * (1 : Nat)) (0 : Int)))) (0 : Int) false)])]), some (Blk.mk true (0 : Nat) [Seg.mp true (R ++ [(Value.int IntKind.u16 (IntKind.u16.wrap ((ps.getD ((0 : Nat) + (↑i :
     Int).toNat * (1 : Nat)) (0 : Int)).tmod (64 : Int))), Value.int IntKind.i64 (IntKind.i64.wrap (at' + IntKind.i64.wrap (ds.getD ((0 : Nat) + (↑i : Int).toNat * (1 : Nat)) (0 : Int)))))])]), some
     (Blk.mk true (0 : Nat) [Seg.mp true K])] else none else none else none else none else none else none else none else none else none else none else none else none) (by kernel_rfl) (by simp only [-eq_self, Int.toNat_natCast, Nat.mul_one, Nat.zero_add, swrap w1.1 w1.2, swrap w2.1 w2.2, swrap w3.1 w3.2]; exact (go_t (dec_t h1) (go_t (and_t (dec_t h2) (dec_t h1)) (go_t (blt_t h3) (go_t (and_t (dec_t h2) (dec_t h4)) (go_t (blt_t h5) (go_t h6 (go_t h7 (go_t h8 (go_t h9 (go_t (chk_t h10) (go_t (and_t h6 rfl) (go_t h7 rfl)))))))))))))
--CFEND
--CP p6R0 (g z : Int) (N M i : Nat) (at' p a r k : Int) (ds ps : List Int) (E R K : List (Value × Value)) (on : List Value → Heap → Out) (out : Exit → List Value → Heap → Out) :: roundK Try.prog ((S6 1).on [(45, true), (61, true), (68, false), (98, true), (107, false), (108, true)]) noL Try.f6.ntmps 2 (loopOf Try.f6 0) live6 (st6 g N M i at') (hp6 g z N M ds ps ((addrV p, clV a r k false) :: E) ((w16 p, w63 r) :: R) K) on out
theorem p6R0 (g z : Int) (N M i : Nat) (at' p a r k : Int) (ds ps : List Int) (E R K : List (Value × Value)) (on : List Value → Heap → Out) (out : Exit → List Value → Heap → Out)
    (w1 : -9223372036854775808 ≤ ds.getD i (0 : Int) ∧ ds.getD i (0 : Int) ≤ 9223372036854775807 := by omega)
    (w2 : -9223372036854775808 ≤ at' + ds.getD i (0 : Int) ∧ at' + ds.getD i (0 : Int) ≤ 9223372036854775807 := by omega)
    (w3 : -9223372036854775808 ≤ at' + ds.getD i (0 : Int) - r ∧ at' + ds.getD i (0 : Int) - r ≤ 9223372036854775807 := by omega)
    (w4 : -9223372036854775808 ≤ (↑i : Int) + (1 : Int) ∧ (↑i : Int) + (1 : Int) ≤ 9223372036854775807 := by omega)
    (h1 : (↑i : Int) < (↑N : Int) := by first | omega | assumption | rfl)
    (h2 : (0 : Int) ≤ (↑i : Int) := by first | omega | assumption | rfl)
    (h3 : i < N := by first | omega | assumption | rfl)
    (h4 : (↑i : Int) < (↑M : Int) := by first | omega | assumption | rfl)
    (h5 : i < M := by first | omega | assumption | rfl)
    (h6 : keysV Try.prog (49 : Nat) (1 : Nat) (Value.int IntKind.u16 (IntKind.u16.wrap ((ps.getD i (0 : Int)).tmod (64 : Int)))) ((Value.int IntKind.u16 p, Value.int IntKind.i64 r) :: R) = true := by first | omega | assumption | rfl)
    (h7 : IntKind.u16.wrap ((ps.getD i (0 : Int)).tmod (64 : Int)) = p := by first | omega | assumption | rfl)
    (h8 : keysV Try.prog (49 : Nat) (1 : Nat) (Value.int IntKind.u16 (IntKind.u16.wrap ((ps.getD i (0 : Int)).tmod (64 : Int)))) K = true := by first | omega | assumption | rfl)
    (h9 : missM Try.prog (49 : Nat) (Value.int IntKind.u16 (IntKind.u16.wrap ((ps.getD i (0 : Int)).tmod (64 : Int)))) K = true := by first | omega | assumption | rfl)
    (h10 : p = IntKind.u16.wrap ((ps.getD i (0 : Int)).tmod (64 : Int)) ∧ keysV Try.prog (OfNat.ofNat (51 : Nat)) (5 : Nat) (addrV (IntKind.u16.wrap ((ps.getD i (0 : Int)).tmod (64 : Int)))) E = true ∧ z ≤ at' + ds.getD i (0 : Int) ∧ (0 : Int) ≤ r ∧ r ≤ at' + ds.getD i (0 : Int) ∧ (0 : Int) ≤ k ∧ k ≤ at' + ds.getD i (0 : Int) ∧ at' + ds.getD i (0 : Int) ≤ (4611686018427387904 : Int) ∧ (0 : Int) ≤ g ∧ g ≤ (4611686018427387904 : Int) ∧ (1 : Int) = if g ≤ at' + ds.getD i (0 : Int) - r then (1 : Int) else if false = false ∨ g ≤ at' + ds.getD i (0 : Int) - k then (2 : Int) else (0 : Int) := by first | omega | assumption | rfl | ((repeat' with_reducible apply And.intro) <;> first | rfl | assumption | omega))
    (h11 : ¬at' + ds.getD i (0 : Int) - r < g := by first | omega | assumption | rfl) : roundK Try.prog ((S6 1).on [(45, true), (61, true), (68, false), (98, true), (107, false), (108, true)]) noL Try.f6.ntmps 2 (loopOf Try.f6 0) live6 (st6 g N M i at') (hp6 g z N M ds ps ((addrV p, clV a r k false) :: E) ((w16 p, w63 r) :: R) K) on out =
     (on [Value.bool false, Value.int IntKind.i64 g, Value.slice (some (Addr.mk (1 : Nat) (0 : Nat) none)) M (2 : Nat), Value.slice (some (Addr.mk (0 : Nat) (0 : Nat) none)) N (2 : Nat), Value.int
     IntKind.i64 (↑N : Int), Value.int IntKind.i64 ((↑i : Int) + (1 : Int)), Value.pointer (some (Addr.mk (2 : Nat) (0 : Nat) none)), Value.map (some (4 : Nat)), Value.map (some (5 : Nat)), Value.int
     IntKind.i64 (at' + ds.getD i (0 : Int))] [some (Blk.mk false (1 : Nat) [Seg.ints IntKind.u32 N ds]), some (Blk.mk false (1 : Nat) [Seg.ints IntKind.u8 M ps]), some (Blk.mk true (3 : Nat) [Seg.ints
     IntKind.i64 (2 : Nat) [g, at' + ds.getD i (0 : Int)], Seg.vals [Value.map (some (3 : Nat))]]), some (Blk.mk true (0 : Nat) [Seg.mp true ((addrV (IntKind.u16.wrap ((ps.getD i (0 : Int)).tmod (64 :
     Int))), clV (at' + ds.getD i (0 : Int)) (bif true then at' + ds.getD i (0 : Int) else r) (bif false then at' + ds.getD i (0 : Int) else k) false) :: E)]), some (Blk.mk true (0 : Nat) [Seg.mp true
     (setM ((w16 p, w63 r) :: R) (0 : Nat) (Value.int IntKind.i64 (at' + ds.getD i (0 : Int))))]), some (Blk.mk true (0 : Nat) [Seg.mp true K])]) :=
  Eq.trans (b :=
     bif decide ((↑i : Int) < (↑N : Int)) then bif decide ((0 : Int) ≤ (↑i : Int)) && decide ((↑i : Int) < (↑N : Int)) then bif ((0 : Nat) + (↑i : Int).toNat * (1 : Nat)).blt N then bif decide ((0 : Int) ≤
     (↑i : Int)) && decide ((↑i : Int) < (↑M : Int)) then bif ((0 : Nat) + (↑i : Int).toNat * (1 : Nat)).blt M then bif keysV Try.prog (49 : Nat) (1 : Nat) (Value.int IntKind.u16 (IntKind.u16.wrap
     ((ps.getD ((0 : Nat) + (↑i : Int).toNat * (1 : Nat)) (0 : Int)).tmod (64 : Int)))) ((Value.int IntKind.u16 p, Value.int IntKind.i64 r) :: R) then bif IntKind.u16.wrap ((ps.getD ((0 : Nat) + (↑i :
     Int).toNat * (1 : Nat)) (0 : Int)).tmod (64 : Int)) == p then bif keysV Try.prog (49 : Nat) (1 : Nat) (Value.int IntKind.u16 (IntKind.u16.wrap ((ps.getD ((0 : Nat) + (↑i : Int).toNat * (1 : Nat)) (0 :
     Int)).tmod (64 : Int)))) K then bif missM Try.prog (49 : Nat) (Value.int IntKind.u16 (IntKind.u16.wrap ((ps.getD ((0 : Nat) + (↑i : Int).toNat * (1 : Nat)) (0 : Int)).tmod (64 : Int)))) K then bif chk
     (p = IntKind.u16.wrap ((ps.getD ((0 : Nat) + (↑i : Int).toNat * (1 : Nat)) (0 : Int)).tmod (64 : Int)) ∧ keysV Try.prog (OfNat.ofNat (51 : Nat)) (5 : Nat) (addrV (IntKind.u16.wrap ((ps.getD ((0 : Nat)
     + (↑i : Int).toNat * (1 : Nat)) (0 : Int)).tmod (64 : Int)))) E = true ∧ z ≤ IntKind.i64.wrap (at' + IntKind.i64.wrap (ds.getD ((0 : Nat) + (↑i : Int).toNat * (1 : Nat)) (0 : Int))) ∧ (0 : Int) ≤ r ∧
     r ≤ IntKind.i64.wrap (at' + IntKind.i64.wrap (ds.getD ((0 : Nat) + (↑i : Int).toNat * (1 : Nat)) (0 : Int))) ∧ (0 : Int) ≤ k ∧ k ≤ IntKind.i64.wrap (at' + IntKind.i64.wrap (ds.getD ((0 : Nat) + (↑i :
     Int).toNat * (1 : Nat)) (0 : Int))) ∧ IntKind.i64.wrap (at' + IntKind.i64.wrap (ds.getD ((0 : Nat) + (↑i : Int).toNat * (1 : Nat)) (0 : Int))) ≤ (4611686018427387904 : Int) ∧ (0 : Int) ≤ g ∧ g ≤
     (4611686018427387904 : Int) ∧ (1 : Int) = if g ≤ IntKind.i64.wrap (at' + IntKind.i64.wrap (ds.getD ((0 : Nat) + (↑i : Int).toNat * (1 : Nat)) (0 : Int))) - r then (1 : Int) else if false = false ∨ g ≤
     IntKind.i64.wrap (at' + IntKind.i64.wrap (ds.getD ((0 : Nat) + (↑i : Int).toNat * (1 : Nat)) (0 : Int))) - k then (2 : Int) else (0 : Int)) then bif decide (IntKind.i64.wrap (IntKind.i64.wrap (at' +
     IntKind.i64.wrap (ds.getD ((0 : Nat) + (↑i : Int).toNat * (1 : Nat)) (0 : Int))) - r) < g) then none else bif keysV Try.prog (49 : Nat) (1 : Nat) (Value.int IntKind.u16 (IntKind.u16.wrap ((ps.getD ((0
     : Nat) + (↑i : Int).toNat * (1 : Nat)) (0 : Int)).tmod (64 : Int)))) ((Value.int IntKind.u16 p, Value.int IntKind.i64 r) :: R) && true then bif IntKind.u16.wrap ((ps.getD ((0 : Nat) + (↑i : Int).toNat
     * (1 : Nat)) (0 : Int)).tmod (64 : Int)) == p then on [Value.bool false, Value.int IntKind.i64 g, Value.slice (some (Addr.mk (1 : Nat) (0 : Nat) none)) M (2 : Nat), Value.slice (some (Addr.mk (0 :
     Nat) (0 : Nat) none)) N (2 : Nat), Value.int IntKind.i64 (↑N : Int), Value.int IntKind.i64 (IntKind.i64.wrap ((↑i : Int) + (1 : Int))), Value.pointer (some (Addr.mk (2 : Nat) (0 : Nat) none)),
     Value.map (some (4 : Nat)), Value.map (some (5 : Nat)), Value.int IntKind.i64 (IntKind.i64.wrap (at' + IntKind.i64.wrap (ds.getD ((0 : Nat) + (↑i : Int).toNat * (1 : Nat)) (0 : Int))))] [some (Blk.mk
     false (1 : Nat) [Seg.ints IntKind.u32 N ds]), some (Blk.mk false (1 : Nat) [Seg.ints IntKind.u8 M ps]), some (Blk.mk true (3 : Nat) [Seg.ints IntKind.i64 (2 : Nat) [g, IntKind.i64.wrap (at' +
     IntKind.i64.wrap (ds.getD ((0 : Nat) + (↑i : Int).toNat * (1 : Nat)) (0 : Int)))], Seg.vals [Value.map (some (3 : Nat))]]), some (Blk.mk true (0 : Nat) [Seg.mp true ((addrV (IntKind.u16.wrap ((ps.getD
     ((0 : Nat) + (↑i : Int).toNat * (1 : Nat)) (0 : Int)).tmod (64 : Int))), clV (IntKind.i64.wrap (at' + IntKind.i64.wrap (ds.getD ((0 : Nat) + (↑i : Int).toNat * (1 : Nat)) (0 : Int)))) (bif true then
     IntKind.i64.wrap (at' + IntKind.i64.wrap (ds.getD ((0 : Nat) + (↑i : Int).toNat * (1 : Nat)) (0 : Int))) else r) (bif false then IntKind.i64.wrap (at' + IntKind.i64.wrap (ds.getD ((0 : Nat) + (↑i :
     Int).toNat * (1 : Nat)) (0 : Int))) else k) false) :: E)]), some (Blk.mk true (0 : Nat) [Seg.mp true (setM ((w16 p, w63 r) :: R) (0 : Nat) (Value.int IntKind.i64 (IntKind.i64.wrap (at' +
     IntKind.i64.wrap (ds.getD ((0 : Nat) + (↑i : Int).toNat * (1 : Nat)) (0 : Int))))))]), some (Blk.mk true (0 : Nat) [Seg.mp true K])] else none else none else none else none else none else none else
     none else none else none else none else none else none) (by kernel_rfl) (by simp only [-eq_self, Int.toNat_natCast, Nat.mul_one, Nat.zero_add, swrap w1.1 w1.2, swrap w2.1 w2.2, swrap w3.1 w3.2, swrap w4.1 w4.2]; exact (go_t (dec_t h1) (go_t (and_t (dec_t h2) (dec_t h1)) (go_t (blt_t h3) (go_t (and_t (dec_t h2) (dec_t h4)) (go_t (blt_t h5) (go_t h6 (go_t (eqb_t h7) (go_t h8 (go_t h9 (go_t (chk_t h10) (go_f (dec_f h11) (go_t (and_t h6 rfl) (go_t (eqb_t h7) rfl))))))))))))))
--CFEND
--CP p6R1 (g z : Int) (N M i : Nat) (at' p a r k : Int) (ds ps : List Int) (E R K : List (Value × Value)) (on : List Value → Heap → Out) (out : Exit → List Value → Heap → Out) :: roundK Try.prog ((S6 1).on [(45, true), (61, true), (68, true), (98, true), (107, false), (108, true)]) noL Try.f6.ntmps 2 (loopOf Try.f6 0) live6 (st6 g N M i at') (hp6 g z N M ds ps ((addrV p, clV a r k true) :: E) ((w16 p, w63 r) :: R) ((w16 p, w63 k) :: K)) on out
theorem p6R1 (g z : Int) (N M i : Nat) (at' p a r k : Int) (ds ps : List Int) (E R K : List (Value × Value)) (on : List Value → Heap → Out) (out : Exit → List Value → Heap → Out)
    (w1 : -9223372036854775808 ≤ ds.getD i (0 : Int) ∧ ds.getD i (0 : Int) ≤ 9223372036854775807 := by omega)
    (w2 : -9223372036854775808 ≤ at' + ds.getD i (0 : Int) ∧ at' + ds.getD i (0 : Int) ≤ 9223372036854775807 := by omega)
    (w3 : -9223372036854775808 ≤ at' + ds.getD i (0 : Int) - r ∧ at' + ds.getD i (0 : Int) - r ≤ 9223372036854775807 := by omega)
    (w4 : -9223372036854775808 ≤ (↑i : Int) + (1 : Int) ∧ (↑i : Int) + (1 : Int) ≤ 9223372036854775807 := by omega)
    (h1 : (↑i : Int) < (↑N : Int) := by first | omega | assumption | rfl)
    (h2 : (0 : Int) ≤ (↑i : Int) := by first | omega | assumption | rfl)
    (h3 : i < N := by first | omega | assumption | rfl)
    (h4 : (↑i : Int) < (↑M : Int) := by first | omega | assumption | rfl)
    (h5 : i < M := by first | omega | assumption | rfl)
    (h6 : keysV Try.prog (49 : Nat) (1 : Nat) (Value.int IntKind.u16 (IntKind.u16.wrap ((ps.getD i (0 : Int)).tmod (64 : Int)))) ((Value.int IntKind.u16 p, Value.int IntKind.i64 r) :: R) = true := by first | omega | assumption | rfl)
    (h7 : IntKind.u16.wrap ((ps.getD i (0 : Int)).tmod (64 : Int)) = p := by first | omega | assumption | rfl)
    (h8 : keysV Try.prog (49 : Nat) (1 : Nat) (Value.int IntKind.u16 (IntKind.u16.wrap ((ps.getD i (0 : Int)).tmod (64 : Int)))) ((Value.int IntKind.u16 p, Value.int IntKind.i64 k) :: K) = true := by first | omega | assumption | rfl)
    (h9 : p = IntKind.u16.wrap ((ps.getD i (0 : Int)).tmod (64 : Int)) ∧ keysV Try.prog (OfNat.ofNat (51 : Nat)) (5 : Nat) (addrV (IntKind.u16.wrap ((ps.getD i (0 : Int)).tmod (64 : Int)))) E = true ∧ z ≤ at' + ds.getD i (0 : Int) ∧ (0 : Int) ≤ r ∧ r ≤ at' + ds.getD i (0 : Int) ∧ (0 : Int) ≤ k ∧ k ≤ at' + ds.getD i (0 : Int) ∧ at' + ds.getD i (0 : Int) ≤ (4611686018427387904 : Int) ∧ (0 : Int) ≤ g ∧ g ≤ (4611686018427387904 : Int) ∧ (1 : Int) = if g ≤ at' + ds.getD i (0 : Int) - r then (1 : Int) else if true = false ∨ g ≤ at' + ds.getD i (0 : Int) - k then (2 : Int) else (0 : Int) := by first | omega | assumption | rfl | ((repeat' with_reducible apply And.intro) <;> first | rfl | assumption | omega))
    (h10 : ¬at' + ds.getD i (0 : Int) - r < g := by first | omega | assumption | rfl) : roundK Try.prog ((S6 1).on [(45, true), (61, true), (68, true), (98, true), (107, false), (108, true)]) noL Try.f6.ntmps 2 (loopOf Try.f6 0) live6 (st6 g N M i at') (hp6 g z N M ds ps ((addrV p, clV a r k true) :: E) ((w16 p, w63 r) :: R) ((w16 p, w63 k) :: K)) on out =
     (on [Value.bool false, Value.int IntKind.i64 g, Value.slice (some (Addr.mk (1 : Nat) (0 : Nat) none)) M (2 : Nat), Value.slice (some (Addr.mk (0 : Nat) (0 : Nat) none)) N (2 : Nat), Value.int
     IntKind.i64 (↑N : Int), Value.int IntKind.i64 ((↑i : Int) + (1 : Int)), Value.pointer (some (Addr.mk (2 : Nat) (0 : Nat) none)), Value.map (some (4 : Nat)), Value.map (some (5 : Nat)), Value.int
     IntKind.i64 (at' + ds.getD i (0 : Int))] [some (Blk.mk false (1 : Nat) [Seg.ints IntKind.u32 N ds]), some (Blk.mk false (1 : Nat) [Seg.ints IntKind.u8 M ps]), some (Blk.mk true (3 : Nat) [Seg.ints
     IntKind.i64 (2 : Nat) [g, at' + ds.getD i (0 : Int)], Seg.vals [Value.map (some (3 : Nat))]]), some (Blk.mk true (0 : Nat) [Seg.mp true ((addrV (IntKind.u16.wrap ((ps.getD i (0 : Int)).tmod (64 :
     Int))), clV (at' + ds.getD i (0 : Int)) (bif true then at' + ds.getD i (0 : Int) else r) (bif false then at' + ds.getD i (0 : Int) else k) true) :: E)]), some (Blk.mk true (0 : Nat) [Seg.mp true (setM
     ((w16 p, w63 r) :: R) (0 : Nat) (Value.int IntKind.i64 (at' + ds.getD i (0 : Int))))]), some (Blk.mk true (0 : Nat) [Seg.mp true ((w16 p, w63 k) :: K)])]) :=
  Eq.trans (b :=
     bif decide ((↑i : Int) < (↑N : Int)) then bif decide ((0 : Int) ≤ (↑i : Int)) && decide ((↑i : Int) < (↑N : Int)) then bif ((0 : Nat) + (↑i : Int).toNat * (1 : Nat)).blt N then bif decide ((0 : Int) ≤
     (↑i : Int)) && decide ((↑i : Int) < (↑M : Int)) then bif ((0 : Nat) + (↑i : Int).toNat * (1 : Nat)).blt M then bif keysV Try.prog (49 : Nat) (1 : Nat) (Value.int IntKind.u16 (IntKind.u16.wrap
     ((ps.getD ((0 : Nat) + (↑i : Int).toNat * (1 : Nat)) (0 : Int)).tmod (64 : Int)))) ((Value.int IntKind.u16 p, Value.int IntKind.i64 r) :: R) then bif IntKind.u16.wrap ((ps.getD ((0 : Nat) + (↑i :
     Int).toNat * (1 : Nat)) (0 : Int)).tmod (64 : Int)) == p then bif keysV Try.prog (49 : Nat) (1 : Nat) (Value.int IntKind.u16 (IntKind.u16.wrap ((ps.getD ((0 : Nat) + (↑i : Int).toNat * (1 : Nat)) (0 :
     Int)).tmod (64 : Int)))) ((Value.int IntKind.u16 p, Value.int IntKind.i64 k) :: K) then bif IntKind.u16.wrap ((ps.getD ((0 : Nat) + (↑i : Int).toNat * (1 : Nat)) (0 : Int)).tmod (64 : Int)) == p then
     bif chk (p = IntKind.u16.wrap ((ps.getD ((0 : Nat) + (↑i : Int).toNat * (1 : Nat)) (0 : Int)).tmod (64 : Int)) ∧ keysV Try.prog (OfNat.ofNat (51 : Nat)) (5 : Nat) (addrV (IntKind.u16.wrap ((ps.getD
     ((0 : Nat) + (↑i : Int).toNat * (1 : Nat)) (0 : Int)).tmod (64 : Int)))) E = true ∧ z ≤ IntKind.i64.wrap (at' + IntKind.i64.wrap (ds.getD ((0 : Nat) + (↑i : Int).toNat * (1 : Nat)) (0 : Int))) ∧ (0 :
     Int) ≤ r ∧ r ≤ IntKind.i64.wrap (at' + IntKind.i64.wrap (ds.getD ((0 : Nat) + (↑i : Int).toNat * (1 : Nat)) (0 : Int))) ∧ (0 : Int) ≤ k ∧ k ≤ IntKind.i64.wrap (at' + IntKind.i64.wrap (ds.getD ((0 :
     Nat) + (↑i : Int).toNat * (1 : Nat)) (0 : Int))) ∧ IntKind.i64.wrap (at' + IntKind.i64.wrap (ds.getD ((0 : Nat) + (↑i : Int).toNat * (1 : Nat)) (0 : Int))) ≤ (4611686018427387904 : Int) ∧ (0 : Int) ≤
     g ∧ g ≤ (4611686018427387904 : Int) ∧ (1 : Int) = if g ≤ IntKind.i64.wrap (at' + IntKind.i64.wrap (ds.getD ((0 : Nat) + (↑i : Int).toNat * (1 : Nat)) (0 : Int))) - r then (1 : Int) else if true =
     false ∨ g ≤ IntKind.i64.wrap (at' + IntKind.i64.wrap (ds.getD ((0 : Nat) + (↑i : Int).toNat * (1 : Nat)) (0 : Int))) - k then (2 : Int) else (0 : Int)) then bif decide (IntKind.i64.wrap
     (IntKind.i64.wrap (at' + IntKind.i64.wrap (ds.getD ((0 : Nat) + (↑i : Int).toNat * (1 : Nat)) (0 : Int))) - r) < g) then none else bif keysV Try.prog (49 : Nat) (1 : Nat) (Value.int IntKind.u16
     (IntKind.u16.wrap ((ps.getD ((0 : Nat) + (↑i : Int).toNat * (1 : Nat)) (0 : Int)).tmod (64 : Int)))) ((Value.int IntKind.u16 p, Value.int IntKind.i64 r) :: R) && true then bif IntKind.u16.wrap
     ((ps.getD ((0 : Nat) + (↑i : Int).toNat * (1 : Nat)) (0 : Int)).tmod (64 : Int)) == p then on [Value.bool false, Value.int IntKind.i64 g, Value.slice (some (Addr.mk (1 : Nat) (0 : Nat) none)) M (2 :
     Nat), Value.slice (some (Addr.mk (0 : Nat) (0 : Nat) none)) N (2 : Nat), Value.int IntKind.i64 (↑N : Int), Value.int IntKind.i64 (IntKind.i64.wrap ((↑i : Int) + (1 : Int))), Value.pointer (some
     (Addr.mk (2 : Nat) (0 : Nat) none)), Value.map (some (4 : Nat)), Value.map (some (5 : Nat)), Value.int IntKind.i64 (IntKind.i64.wrap (at' + IntKind.i64.wrap (ds.getD ((0 : Nat) + (↑i : Int).toNat * (1
     : Nat)) (0 : Int))))] [some (Blk.mk false (1 : Nat) [Seg.ints IntKind.u32 N ds]), some (Blk.mk false (1 : Nat) [Seg.ints IntKind.u8 M ps]), some (Blk.mk true (3 : Nat) [Seg.ints IntKind.i64 (2 : Nat)
     [g, IntKind.i64.wrap (at' + IntKind.i64.wrap (ds.getD ((0 : Nat) + (↑i : Int).toNat * (1 : Nat)) (0 : Int)))], Seg.vals [Value.map (some (3 : Nat))]]), some (Blk.mk true (0 : Nat) [Seg.mp true ((addrV
     (IntKind.u16.wrap ((ps.getD ((0 : Nat) + (↑i : Int).toNat * (1 : Nat)) (0 : Int)).tmod (64 : Int))), clV (IntKind.i64.wrap (at' + IntKind.i64.wrap (ds.getD ((0 : Nat) + (↑i : Int).toNat * (1 : Nat))
     (0 : Int)))) (bif true then IntKind.i64.wrap (at' + IntKind.i64.wrap (ds.getD ((0 : Nat) + (↑i : Int).toNat * (1 : Nat)) (0 : Int))) else r) (bif false then IntKind.i64.wrap (at' + IntKind.i64.wrap
     (ds.getD ((0 : Nat) + (↑i : Int).toNat * (1 : Nat)) (0 : Int))) else k) true) :: E)]), some (Blk.mk true (0 : Nat) [Seg.mp true (setM ((w16 p, w63 r) :: R) (0 : Nat) (Value.int IntKind.i64
     (IntKind.i64.wrap (at' + IntKind.i64.wrap (ds.getD ((0 : Nat) + (↑i : Int).toNat * (1 : Nat)) (0 : Int))))))]), some (Blk.mk true (0 : Nat) [Seg.mp true ((w16 p, w63 k) :: K)])] else none else none
     else none else none else none else none else none else none else none else none else none else none) (by kernel_rfl) (by simp only [-eq_self, Int.toNat_natCast, Nat.mul_one, Nat.zero_add, swrap w1.1 w1.2, swrap w2.1 w2.2, swrap w3.1 w3.2, swrap w4.1 w4.2]; exact (go_t (dec_t h1) (go_t (and_t (dec_t h2) (dec_t h1)) (go_t (blt_t h3) (go_t (and_t (dec_t h2) (dec_t h4)) (go_t (blt_t h5) (go_t h6 (go_t (eqb_t h7) (go_t h8 (go_t (eqb_t h7) (go_t (chk_t h9) (go_f (dec_f h10) (go_t (and_t h6 rfl) (go_t (eqb_t h7) rfl))))))))))))))
--CFEND
--CP p6K0 (g z : Int) (N M i : Nat) (at' p a r k : Int) (ds ps : List Int) (E R K : List (Value × Value)) (on : List Value → Heap → Out) (out : Exit → List Value → Heap → Out) :: roundK Try.prog ((S6 2).on [(45, true), (61, true), (68, false), (98, false), (112, true), (132, false), (133, false)]) noL Try.f6.ntmps 2 (loopOf Try.f6 0) live6 (st6 g N M i at') (hp6 g z N M ds ps ((addrV p, clV a r k false) :: E) ((w16 p, w63 r) :: R) K) on out
theorem p6K0 (g z : Int) (N M i : Nat) (at' p a r k : Int) (ds ps : List Int) (E R K : List (Value × Value)) (on : List Value → Heap → Out) (out : Exit → List Value → Heap → Out)
    (w1 : -9223372036854775808 ≤ ds.getD i (0 : Int) ∧ ds.getD i (0 : Int) ≤ 9223372036854775807 := by omega)
    (w2 : -9223372036854775808 ≤ at' + ds.getD i (0 : Int) ∧ at' + ds.getD i (0 : Int) ≤ 9223372036854775807 := by omega)
    (w3 : -9223372036854775808 ≤ at' + ds.getD i (0 : Int) - r ∧ at' + ds.getD i (0 : Int) - r ≤ 9223372036854775807 := by omega)
    (w4 : -9223372036854775808 ≤ (↑i : Int) + (1 : Int) ∧ (↑i : Int) + (1 : Int) ≤ 9223372036854775807 := by omega)
    (h1 : (↑i : Int) < (↑N : Int) := by first | omega | assumption | rfl)
    (h2 : (0 : Int) ≤ (↑i : Int) := by first | omega | assumption | rfl)
    (h3 : i < N := by first | omega | assumption | rfl)
    (h4 : (↑i : Int) < (↑M : Int) := by first | omega | assumption | rfl)
    (h5 : i < M := by first | omega | assumption | rfl)
    (h6 : keysV Try.prog (49 : Nat) (1 : Nat) (Value.int IntKind.u16 (IntKind.u16.wrap ((ps.getD i (0 : Int)).tmod (64 : Int)))) ((Value.int IntKind.u16 p, Value.int IntKind.i64 r) :: R) = true := by first | omega | assumption | rfl)
    (h7 : IntKind.u16.wrap ((ps.getD i (0 : Int)).tmod (64 : Int)) = p := by first | omega | assumption | rfl)
    (h8 : keysV Try.prog (49 : Nat) (1 : Nat) (Value.int IntKind.u16 (IntKind.u16.wrap ((ps.getD i (0 : Int)).tmod (64 : Int)))) K = true := by first | omega | assumption | rfl)
    (h9 : missM Try.prog (49 : Nat) (Value.int IntKind.u16 (IntKind.u16.wrap ((ps.getD i (0 : Int)).tmod (64 : Int)))) K = true := by first | omega | assumption | rfl)
    (h10 : p = IntKind.u16.wrap ((ps.getD i (0 : Int)).tmod (64 : Int)) ∧ keysV Try.prog (OfNat.ofNat (51 : Nat)) (5 : Nat) (addrV (IntKind.u16.wrap ((ps.getD i (0 : Int)).tmod (64 : Int)))) E = true ∧ z ≤ at' + ds.getD i (0 : Int) ∧ (0 : Int) ≤ r ∧ r ≤ at' + ds.getD i (0 : Int) ∧ (0 : Int) ≤ k ∧ k ≤ at' + ds.getD i (0 : Int) ∧ at' + ds.getD i (0 : Int) ≤ (4611686018427387904 : Int) ∧ (0 : Int) ≤ g ∧ g ≤ (4611686018427387904 : Int) ∧ (2 : Int) = if g ≤ at' + ds.getD i (0 : Int) - r then (1 : Int) else if false = false ∨ g ≤ at' + ds.getD i (0 : Int) - k then (2 : Int) else (0 : Int) := by first | omega | assumption | rfl | ((repeat' with_reducible apply And.intro) <;> first | rfl | assumption | omega))
    (h11 : ¬at' + ds.getD i (0 : Int) - r ≥ g := by first | omega | assumption | rfl) : roundK Try.prog ((S6 2).on [(45, true), (61, true), (68, false), (98, false), (112, true), (132, false), (133, false)]) noL Try.f6.ntmps 2 (loopOf Try.f6 0) live6 (st6 g N M i at') (hp6 g z N M ds ps ((addrV p, clV a r k false) :: E) ((w16 p, w63 r) :: R) K) on out =
     (on [Value.bool false, Value.int IntKind.i64 g, Value.slice (some (Addr.mk (1 : Nat) (0 : Nat) none)) M (2 : Nat), Value.slice (some (Addr.mk (0 : Nat) (0 : Nat) none)) N (2 : Nat), Value.int
     IntKind.i64 (↑N : Int), Value.int IntKind.i64 ((↑i : Int) + (1 : Int)), Value.pointer (some (Addr.mk (2 : Nat) (0 : Nat) none)), Value.map (some (4 : Nat)), Value.map (some (5 : Nat)), Value.int
     IntKind.i64 (at' + ds.getD i (0 : Int))] [some (Blk.mk false (1 : Nat) [Seg.ints IntKind.u32 N ds]), some (Blk.mk false (1 : Nat) [Seg.ints IntKind.u8 M ps]), some (Blk.mk true (3 : Nat) [Seg.ints
     IntKind.i64 (2 : Nat) [g, at' + ds.getD i (0 : Int)], Seg.vals [Value.map (some (3 : Nat))]]), some (Blk.mk true (0 : Nat) [Seg.mp true ((addrV (IntKind.u16.wrap ((ps.getD i (0 : Int)).tmod (64 :
     Int))), clV (at' + ds.getD i (0 : Int)) (bif false then at' + ds.getD i (0 : Int) else r) (bif true then at' + ds.getD i (0 : Int) else k) true) :: E)]), some (Blk.mk true (0 : Nat) [Seg.mp true ((w16
     p, w63 r) :: R)]), some (Blk.mk true (0 : Nat) [Seg.mp true (K ++ [(Value.int IntKind.u16 (IntKind.u16.wrap ((ps.getD i (0 : Int)).tmod (64 : Int))), Value.int IntKind.i64 (at' + ds.getD i (0 :
     Int)))])])]) :=
  Eq.trans (b :=
     bif decide ((↑i : Int) < (↑N : Int)) then bif decide ((0 : Int) ≤ (↑i : Int)) && decide ((↑i : Int) < (↑N : Int)) then bif ((0 : Nat) + (↑i : Int).toNat * (1 : Nat)).blt N then bif decide ((0 : Int) ≤
     (↑i : Int)) && decide ((↑i : Int) < (↑M : Int)) then bif ((0 : Nat) + (↑i : Int).toNat * (1 : Nat)).blt M then bif keysV Try.prog (49 : Nat) (1 : Nat) (Value.int IntKind.u16 (IntKind.u16.wrap
     ((ps.getD ((0 : Nat) + (↑i : Int).toNat * (1 : Nat)) (0 : Int)).tmod (64 : Int)))) ((Value.int IntKind.u16 p, Value.int IntKind.i64 r) :: R) then bif IntKind.u16.wrap ((ps.getD ((0 : Nat) + (↑i :
     Int).toNat * (1 : Nat)) (0 : Int)).tmod (64 : Int)) == p then bif keysV Try.prog (49 : Nat) (1 : Nat) (Value.int IntKind.u16 (IntKind.u16.wrap ((ps.getD ((0 : Nat) + (↑i : Int).toNat * (1 : Nat)) (0 :
     Int)).tmod (64 : Int)))) K then bif missM Try.prog (49 : Nat) (Value.int IntKind.u16 (IntKind.u16.wrap ((ps.getD ((0 : Nat) + (↑i : Int).toNat * (1 : Nat)) (0 : Int)).tmod (64 : Int)))) K then bif chk
     (p = IntKind.u16.wrap ((ps.getD ((0 : Nat) + (↑i : Int).toNat * (1 : Nat)) (0 : Int)).tmod (64 : Int)) ∧ keysV Try.prog (OfNat.ofNat (51 : Nat)) (5 : Nat) (addrV (IntKind.u16.wrap ((ps.getD ((0 : Nat)
     + (↑i : Int).toNat * (1 : Nat)) (0 : Int)).tmod (64 : Int)))) E = true ∧ z ≤ IntKind.i64.wrap (at' + IntKind.i64.wrap (ds.getD ((0 : Nat) + (↑i : Int).toNat * (1 : Nat)) (0 : Int))) ∧ (0 : Int) ≤ r ∧
     r ≤ IntKind.i64.wrap (at' + IntKind.i64.wrap (ds.getD ((0 : Nat) + (↑i : Int).toNat * (1 : Nat)) (0 : Int))) ∧ (0 : Int) ≤ k ∧ k ≤ IntKind.i64.wrap (at' + IntKind.i64.wrap (ds.getD ((0 : Nat) + (↑i :
     Int).toNat * (1 : Nat)) (0 : Int))) ∧ IntKind.i64.wrap (at' + IntKind.i64.wrap (ds.getD ((0 : Nat) + (↑i : Int).toNat * (1 : Nat)) (0 : Int))) ≤ (4611686018427387904 : Int) ∧ (0 : Int) ≤ g ∧ g ≤
     (4611686018427387904 : Int) ∧ (2 : Int) = if g ≤ IntKind.i64.wrap (at' + IntKind.i64.wrap (ds.getD ((0 : Nat) + (↑i : Int).toNat * (1 : Nat)) (0 : Int))) - r then (1 : Int) else if false = false ∨ g ≤
     IntKind.i64.wrap (at' + IntKind.i64.wrap (ds.getD ((0 : Nat) + (↑i : Int).toNat * (1 : Nat)) (0 : Int))) - k then (2 : Int) else (0 : Int)) then bif decide (IntKind.i64.wrap (IntKind.i64.wrap (at' +
     IntKind.i64.wrap (ds.getD ((0 : Nat) + (↑i : Int).toNat * (1 : Nat)) (0 : Int))) - r) ≥ g) then none else bif keysV Try.prog (49 : Nat) (1 : Nat) (Value.int IntKind.u16 (IntKind.u16.wrap ((ps.getD ((0
     : Nat) + (↑i : Int).toNat * (1 : Nat)) (0 : Int)).tmod (64 : Int)))) K && true then bif missM Try.prog (49 : Nat) (Value.int IntKind.u16 (IntKind.u16.wrap ((ps.getD ((0 : Nat) + (↑i : Int).toNat * (1
     : Nat)) (0 : Int)).tmod (64 : Int)))) K then on [Value.bool false, Value.int IntKind.i64 g, Value.slice (some (Addr.mk (1 : Nat) (0 : Nat) none)) M (2 : Nat), Value.slice (some (Addr.mk (0 : Nat) (0 :
     Nat) none)) N (2 : Nat), Value.int IntKind.i64 (↑N : Int), Value.int IntKind.i64 (IntKind.i64.wrap ((↑i : Int) + (1 : Int))), Value.pointer (some (Addr.mk (2 : Nat) (0 : Nat) none)), Value.map (some
     (4 : Nat)), Value.map (some (5 : Nat)), Value.int IntKind.i64 (IntKind.i64.wrap (at' + IntKind.i64.wrap (ds.getD ((0 : Nat) + (↑i : Int).toNat * (1 : Nat)) (0 : Int))))] [some (Blk.mk false (1 : Nat)
     [Seg.ints IntKind.u32 N ds]), some (Blk.mk false (1 : Nat) [Seg.ints IntKind.u8 M ps]), some (Blk.mk true (3 : Nat) [Seg.ints IntKind.i64 (2 : Nat) [g, IntKind.i64.wrap (at' + IntKind.i64.wrap
     (ds.getD ((0 : Nat) + (↑i : Int).toNat * (1 : Nat)) (0 : Int)))], Seg.vals [Value.map (some (3 : Nat))]]), some (Blk.mk true (0 : Nat) [Seg.mp true ((addrV (IntKind.u16.wrap ((ps.getD ((0 : Nat) + (↑i
     : Int).toNat * (1 : Nat)) (0 : Int)).tmod (64 : Int))), clV (IntKind.i64.wrap (at' + IntKind.i64.wrap (ds.getD ((0 : Nat) + (↑i : Int).toNat * (1 : Nat)) (0 : Int)))) (bif false then IntKind.i64.wrap
     (at' + IntKind.i64.wrap (ds.getD ((0 : Nat) + (↑i : Int).toNat * (1 : Nat)) (0 : Int))) else r) (bif true then IntKind.i64.wrap (at' + IntKind.i64.wrap (ds.getD ((0 : Nat) + (↑i : Int).toNat * (1 :
     Nat)) (0 : Int))) else k) true) :: E)]), some (Blk.mk true (0 : Nat) [Seg.mp true ((w16 p, w63 r) :: R)]), some (Blk.mk true (0 : Nat) [Seg.mp true (K ++ [(Value.int IntKind.u16 (IntKind.u16.wrap
     ((ps.getD ((0 : Nat) + (↑i : Int).toNat * (1 : Nat)) (0 : Int)).tmod (64 : Int))), Value.int IntKind.i64 (IntKind.i64.wrap (at' + IntKind.i64.wrap (ds.getD ((0 : Nat) + (↑i : Int).toNat * (1 : Nat))
     (0 : Int)))))])])] else none else none else none else none else none else none else none else none else none else none else none else none) (by kernel_rfl) (by simp only [-eq_self, Int.toNat_natCast, Nat.mul_one, Nat.zero_add, swrap w1.1 w1.2, swrap w2.1 w2.2, swrap w3.1 w3.2, swrap w4.1 w4.2]; exact (go_t (dec_t h1) (go_t (and_t (dec_t h2) (dec_t h1)) (go_t (blt_t h3) (go_t (and_t (dec_t h2) (dec_t h4)) (go_t (blt_t h5) (go_t h6 (go_t (eqb_t h7) (go_t h8 (go_t h9 (go_t (chk_t h10) (go_f (dec_f h11) (go_t (and_t h8 rfl) (go_t h9 rfl))))))))))))))
--CFEND
--CP p6K1 (g z : Int) (N M i : Nat) (at' p a r k : Int) (ds ps : List Int) (E R K : List (Value × Value)) (on : List Value → Heap → Out) (out : Exit → List Value → Heap → Out) :: roundK Try.prog ((S6 2).on [(45, true), (61, true), (68, true), (98, false), (112, true), (132, false), (133, true)]) noL Try.f6.ntmps 2 (loopOf Try.f6 0) live6 (st6 g N M i at') (hp6 g z N M ds ps ((addrV p, clV a r k true) :: E) ((w16 p, w63 r) :: R) ((w16 p, w63 k) :: K)) on out
theorem p6K1 (g z : Int) (N M i : Nat) (at' p a r k : Int) (ds ps : List Int) (E R K : List (Value × Value)) (on : List Value → Heap → Out) (out : Exit → List Value → Heap → Out)
    (w1 : -9223372036854775808 ≤ ds.getD i (0 : Int) ∧ ds.getD i (0 : Int) ≤ 9223372036854775807 := by omega)
    (w2 : -9223372036854775808 ≤ at' + ds.getD i (0 : Int) ∧ at' + ds.getD i (0 : Int) ≤ 9223372036854775807 := by omega)
    (w3 : -9223372036854775808 ≤ at' + ds.getD i (0 : Int) - r ∧ at' + ds.getD i (0 : Int) - r ≤ 9223372036854775807 := by omega)
    (w4 : -9223372036854775808 ≤ at' + ds.getD i (0 : Int) - k ∧ at' + ds.getD i (0 : Int) - k ≤ 9223372036854775807 := by omega)
    (w5 : -9223372036854775808 ≤ (↑i : Int) + (1 : Int) ∧ (↑i : Int) + (1 : Int) ≤ 9223372036854775807 := by omega)
    (h1 : (↑i : Int) < (↑N : Int) := by first | omega | assumption | rfl)
    (h2 : (0 : Int) ≤ (↑i : Int) := by first | omega | assumption | rfl)
    (h3 : i < N := by first | omega | assumption | rfl)
    (h4 : (↑i : Int) < (↑M : Int) := by first | omega | assumption | rfl)
    (h5 : i < M := by first | omega | assumption | rfl)
    (h6 : keysV Try.prog (49 : Nat) (1 : Nat) (Value.int IntKind.u16 (IntKind.u16.wrap ((ps.getD i (0 : Int)).tmod (64 : Int)))) ((Value.int IntKind.u16 p, Value.int IntKind.i64 r) :: R) = true := by first | omega | assumption | rfl)
    (h7 : IntKind.u16.wrap ((ps.getD i (0 : Int)).tmod (64 : Int)) = p := by first | omega | assumption | rfl)
    (h8 : keysV Try.prog (49 : Nat) (1 : Nat) (Value.int IntKind.u16 (IntKind.u16.wrap ((ps.getD i (0 : Int)).tmod (64 : Int)))) ((Value.int IntKind.u16 p, Value.int IntKind.i64 k) :: K) = true := by first | omega | assumption | rfl)
    (h9 : p = IntKind.u16.wrap ((ps.getD i (0 : Int)).tmod (64 : Int)) ∧ keysV Try.prog (OfNat.ofNat (51 : Nat)) (5 : Nat) (addrV (IntKind.u16.wrap ((ps.getD i (0 : Int)).tmod (64 : Int)))) E = true ∧ z ≤ at' + ds.getD i (0 : Int) ∧ (0 : Int) ≤ r ∧ r ≤ at' + ds.getD i (0 : Int) ∧ (0 : Int) ≤ k ∧ k ≤ at' + ds.getD i (0 : Int) ∧ at' + ds.getD i (0 : Int) ≤ (4611686018427387904 : Int) ∧ (0 : Int) ≤ g ∧ g ≤ (4611686018427387904 : Int) ∧ (2 : Int) = if g ≤ at' + ds.getD i (0 : Int) - r then (1 : Int) else if true = false ∨ g ≤ at' + ds.getD i (0 : Int) - k then (2 : Int) else (0 : Int) := by first | omega | assumption | rfl | ((repeat' with_reducible apply And.intro) <;> first | rfl | assumption | omega))
    (h10 : ¬at' + ds.getD i (0 : Int) - r ≥ g := by first | omega | assumption | rfl)
    (h11 : ¬at' + ds.getD i (0 : Int) - k < g := by first | omega | assumption | rfl) : roundK Try.prog ((S6 2).on [(45, true), (61, true), (68, true), (98, false), (112, true), (132, false), (133, true)]) noL Try.f6.ntmps 2 (loopOf Try.f6 0) live6 (st6 g N M i at') (hp6 g z N M ds ps ((addrV p, clV a r k true) :: E) ((w16 p, w63 r) :: R) ((w16 p, w63 k) :: K)) on out =
     (on [Value.bool false, Value.int IntKind.i64 g, Value.slice (some (Addr.mk (1 : Nat) (0 : Nat) none)) M (2 : Nat), Value.slice (some (Addr.mk (0 : Nat) (0 : Nat) none)) N (2 : Nat), Value.int
     IntKind.i64 (↑N : Int), Value.int IntKind.i64 ((↑i : Int) + (1 : Int)), Value.pointer (some (Addr.mk (2 : Nat) (0 : Nat) none)), Value.map (some (4 : Nat)), Value.map (some (5 : Nat)), Value.int
     IntKind.i64 (at' + ds.getD i (0 : Int))] [some (Blk.mk false (1 : Nat) [Seg.ints IntKind.u32 N ds]), some (Blk.mk false (1 : Nat) [Seg.ints IntKind.u8 M ps]), some (Blk.mk true (3 : Nat) [Seg.ints
     IntKind.i64 (2 : Nat) [g, at' + ds.getD i (0 : Int)], Seg.vals [Value.map (some (3 : Nat))]]), some (Blk.mk true (0 : Nat) [Seg.mp true ((addrV (IntKind.u16.wrap ((ps.getD i (0 : Int)).tmod (64 :
     Int))), clV (at' + ds.getD i (0 : Int)) (bif false then at' + ds.getD i (0 : Int) else r) (bif true then at' + ds.getD i (0 : Int) else k) true) :: E)]), some (Blk.mk true (0 : Nat) [Seg.mp true ((w16
     p, w63 r) :: R)]), some (Blk.mk true (0 : Nat) [Seg.mp true (setM ((w16 p, w63 k) :: K) (0 : Nat) (Value.int IntKind.i64 (at' + ds.getD i (0 : Int))))])]) :=
  Eq.trans (b :=
     bif decide ((↑i : Int) < (↑N : Int)) then bif decide ((0 : Int) ≤ (↑i : Int)) && decide ((↑i : Int) < (↑N : Int)) then bif ((0 : Nat) + (↑i : Int).toNat * (1 : Nat)).blt N then bif decide ((0 : Int) ≤
     (↑i : Int)) && decide ((↑i : Int) < (↑M : Int)) then bif ((0 : Nat) + (↑i : Int).toNat * (1 : Nat)).blt M then bif keysV Try.prog (49 : Nat) (1 : Nat) (Value.int IntKind.u16 (IntKind.u16.wrap
     ((ps.getD ((0 : Nat) + (↑i : Int).toNat * (1 : Nat)) (0 : Int)).tmod (64 : Int)))) ((Value.int IntKind.u16 p, Value.int IntKind.i64 r) :: R) then bif IntKind.u16.wrap ((ps.getD ((0 : Nat) + (↑i :
     Int).toNat * (1 : Nat)) (0 : Int)).tmod (64 : Int)) == p then bif keysV Try.prog (49 : Nat) (1 : Nat) (Value.int IntKind.u16 (IntKind.u16.wrap ((ps.getD ((0 : Nat) + (↑i : Int).toNat * (1 : Nat)) (0 :
     Int)).tmod (64 : Int)))) ((Value.int IntKind.u16 p, Value.int IntKind.i64 k) :: K) then bif IntKind.u16.wrap ((ps.getD ((0 : Nat) + (↑i : Int).toNat * (1 : Nat)) (0 : Int)).tmod (64 : Int)) == p then
     bif chk (p = IntKind.u16.wrap ((ps.getD ((0 : Nat) + (↑i : Int).toNat * (1 : Nat)) (0 : Int)).tmod (64 : Int)) ∧ keysV Try.prog (OfNat.ofNat (51 : Nat)) (5 : Nat) (addrV (IntKind.u16.wrap ((ps.getD
     ((0 : Nat) + (↑i : Int).toNat * (1 : Nat)) (0 : Int)).tmod (64 : Int)))) E = true ∧ z ≤ IntKind.i64.wrap (at' + IntKind.i64.wrap (ds.getD ((0 : Nat) + (↑i : Int).toNat * (1 : Nat)) (0 : Int))) ∧ (0 :
     Int) ≤ r ∧ r ≤ IntKind.i64.wrap (at' + IntKind.i64.wrap (ds.getD ((0 : Nat) + (↑i : Int).toNat * (1 : Nat)) (0 : Int))) ∧ (0 : Int) ≤ k ∧ k ≤ IntKind.i64.wrap (at' + IntKind.i64.wrap (ds.getD ((0 :
     Nat) + (↑i : Int).toNat * (1 : Nat)) (0 : Int))) ∧ IntKind.i64.wrap (at' + IntKind.i64.wrap (ds.getD ((0 : Nat) + (↑i : Int).toNat * (1 : Nat)) (0 : Int))) ≤ (4611686018427387904 : Int) ∧ (0 : Int) ≤
     g ∧ g ≤ (4611686018427387904 : Int) ∧ (2 : Int) = if g ≤ IntKind.i64.wrap (at' + IntKind.i64.wrap (ds.getD ((0 : Nat) + (↑i : Int).toNat * (1 : Nat)) (0 : Int))) - r then (1 : Int) else if true =
     false ∨ g ≤ IntKind.i64.wrap (at' + IntKind.i64.wrap (ds.getD ((0 : Nat) + (↑i : Int).toNat * (1 : Nat)) (0 : Int))) - k then (2 : Int) else (0 : Int)) then bif decide (IntKind.i64.wrap
     (IntKind.i64.wrap (at' + IntKind.i64.wrap (ds.getD ((0 : Nat) + (↑i : Int).toNat * (1 : Nat)) (0 : Int))) - r) ≥ g) then none else bif decide (IntKind.i64.wrap (IntKind.i64.wrap (at' +
     IntKind.i64.wrap (ds.getD ((0 : Nat) + (↑i : Int).toNat * (1 : Nat)) (0 : Int))) - k) < g) then none else bif keysV Try.prog (49 : Nat) (1 : Nat) (Value.int IntKind.u16 (IntKind.u16.wrap ((ps.getD ((0
     : Nat) + (↑i : Int).toNat * (1 : Nat)) (0 : Int)).tmod (64 : Int)))) ((Value.int IntKind.u16 p, Value.int IntKind.i64 k) :: K) && true then bif IntKind.u16.wrap ((ps.getD ((0 : Nat) + (↑i : Int).toNat
     * (1 : Nat)) (0 : Int)).tmod (64 : Int)) == p then on [Value.bool false, Value.int IntKind.i64 g, Value.slice (some (Addr.mk (1 : Nat) (0 : Nat) none)) M (2 : Nat), Value.slice (some (Addr.mk (0 :
     Nat) (0 : Nat) none)) N (2 : Nat), Value.int IntKind.i64 (↑N : Int), Value.int IntKind.i64 (IntKind.i64.wrap ((↑i : Int) + (1 : Int))), Value.pointer (some (Addr.mk (2 : Nat) (0 : Nat) none)),
     Value.map (some (4 : Nat)), Value.map (some (5 : Nat)), Value.int IntKind.i64 (IntKind.i64.wrap (at' + IntKind.i64.wrap (ds.getD ((0 : Nat) + (↑i : Int).toNat * (1 : Nat)) (0 : Int))))] [some (Blk.mk
     false (1 : Nat) [Seg.ints IntKind.u32 N ds]), some (Blk.mk false (1 : Nat) [Seg.ints IntKind.u8 M ps]), some (Blk.mk true (3 : Nat) [Seg.ints IntKind.i64 (2 : Nat) [g, IntKind.i64.wrap (at' +
     IntKind.i64.wrap (ds.getD ((0 : Nat) + (↑i : Int).toNat * (1 : Nat)) (0 : Int)))], Seg.vals [Value.map (some (3 : Nat))]]), some (Blk.mk true (0 : Nat) [Seg.mp true ((addrV (IntKind.u16.wrap ((ps.getD
     ((0 : Nat) + (↑i : Int).toNat * (1 : Nat)) (0 : Int)).tmod (64 : Int))), clV (IntKind.i64.wrap (at' + IntKind.i64.wrap (ds.getD ((0 : Nat) + (↑i : Int).toNat * (1 : Nat)) (0 : Int)))) (bif false then
     IntKind.i64.wrap (at' + IntKind.i64.wrap (ds.getD ((0 : Nat) + (↑i : Int).toNat * (1 : Nat)) (0 : Int))) else r) (bif true then IntKind.i64.wrap (at' + IntKind.i64.wrap (ds.getD ((0 : Nat) + (↑i :
     Int).toNat * (1 : Nat)) (0 : Int))) else k) true) :: E)]), some (Blk.mk true (0 : Nat) [Seg.mp true ((w16 p, w63 r) :: R)]), some (Blk.mk true (0 : Nat) [Seg.mp true (setM ((w16 p, w63 k) :: K) (0 :
     Nat) (Value.int IntKind.i64 (IntKind.i64.wrap (at' + IntKind.i64.wrap (ds.getD ((0 : Nat) + (↑i : Int).toNat * (1 : Nat)) (0 : Int))))))])] else none else none else none else none else none else none
     else none else none else none else none else none else none) (by kernel_rfl) (by simp only [-eq_self, Int.toNat_natCast, Nat.mul_one, Nat.zero_add, swrap w1.1 w1.2, swrap w2.1 w2.2, swrap w3.1 w3.2, swrap w4.1 w4.2, swrap w5.1 w5.2]; exact (go_t (dec_t h1) (go_t (and_t (dec_t h2) (dec_t h1)) (go_t (blt_t h3) (go_t (and_t (dec_t h2) (dec_t h4)) (go_t (blt_t h5) (go_t h6 (go_t (eqb_t h7) (go_t h8 (go_t (eqb_t h7) (go_t (chk_t h9) (go_f (dec_f h10) (go_f (dec_f h11) (go_t (and_t h8 rfl) (go_t (eqb_t h7) rfl)))))))))))))))
--CFEND
--CP p6N (g z : Int) (N M i : Nat) (at' p a r k : Int) (ds ps : List Int) (E R K : List (Value × Value)) (on : List Value → Heap → Out) (out : Exit → List Value → Heap → Out) :: roundK Try.prog ((S6 0).on [(45, true), (61, true), (68, true), (98, false), (112, false), (97, false)]) noL Try.f6.ntmps 2 (loopOf Try.f6 0) live6 (st6 g N M i at') (hp6 g z N M ds ps ((addrV p, clV a r k true) :: E) ((w16 p, w63 r) :: R) ((w16 p, w63 k) :: K)) on out
theorem p6N (g z : Int) (N M i : Nat) (at' p a r k : Int) (ds ps : List Int) (E R K : List (Value × Value)) (on : List Value → Heap → Out) (out : Exit → List Value → Heap → Out)
    (w1 : -9223372036854775808 ≤ ds.getD i (0 : Int) ∧ ds.getD i (0 : Int) ≤ 9223372036854775807 := by omega)
    (w2 : -9223372036854775808 ≤ at' + ds.getD i (0 : Int) ∧ at' + ds.getD i (0 : Int) ≤ 9223372036854775807 := by omega)
    (w3 : -9223372036854775808 ≤ at' + ds.getD i (0 : Int) - r ∧ at' + ds.getD i (0 : Int) - r ≤ 9223372036854775807 := by omega)
    (w4 : -9223372036854775808 ≤ at' + ds.getD i (0 : Int) - k ∧ at' + ds.getD i (0 : Int) - k ≤ 9223372036854775807 := by omega)
    (w5 : -9223372036854775808 ≤ (↑i : Int) + (1 : Int) ∧ (↑i : Int) + (1 : Int) ≤ 9223372036854775807 := by omega)
    (h1 : (↑i : Int) < (↑N : Int) := by first | omega | assumption | rfl)
    (h2 : (0 : Int) ≤ (↑i : Int) := by first | omega | assumption | rfl)
    (h3 : i < N := by first | omega | assumption | rfl)
    (h4 : (↑i : Int) < (↑M : Int) := by first | omega | assumption | rfl)
    (h5 : i < M := by first | omega | assumption | rfl)
    (h6 : keysV Try.prog (49 : Nat) (1 : Nat) (Value.int IntKind.u16 (IntKind.u16.wrap ((ps.getD i (0 : Int)).tmod (64 : Int)))) ((Value.int IntKind.u16 p, Value.int IntKind.i64 r) :: R) = true := by first | omega | assumption | rfl)
    (h7 : IntKind.u16.wrap ((ps.getD i (0 : Int)).tmod (64 : Int)) = p := by first | omega | assumption | rfl)
    (h8 : keysV Try.prog (49 : Nat) (1 : Nat) (Value.int IntKind.u16 (IntKind.u16.wrap ((ps.getD i (0 : Int)).tmod (64 : Int)))) ((Value.int IntKind.u16 p, Value.int IntKind.i64 k) :: K) = true := by first | omega | assumption | rfl)
    (h9 : p = IntKind.u16.wrap ((ps.getD i (0 : Int)).tmod (64 : Int)) ∧ keysV Try.prog (OfNat.ofNat (51 : Nat)) (5 : Nat) (addrV (IntKind.u16.wrap ((ps.getD i (0 : Int)).tmod (64 : Int)))) E = true ∧ z ≤ at' + ds.getD i (0 : Int) ∧ (0 : Int) ≤ r ∧ r ≤ at' + ds.getD i (0 : Int) ∧ (0 : Int) ≤ k ∧ k ≤ at' + ds.getD i (0 : Int) ∧ at' + ds.getD i (0 : Int) ≤ (4611686018427387904 : Int) ∧ (0 : Int) ≤ g ∧ g ≤ (4611686018427387904 : Int) ∧ (0 : Int) = if g ≤ at' + ds.getD i (0 : Int) - r then (1 : Int) else if true = false ∨ g ≤ at' + ds.getD i (0 : Int) - k then (2 : Int) else (0 : Int) := by first | omega | assumption | rfl | ((repeat' with_reducible apply And.intro) <;> first | rfl | assumption | omega))
    (h10 : ¬at' + ds.getD i (0 : Int) - r ≥ g := by first | omega | assumption | rfl)
    (h11 : ¬at' + ds.getD i (0 : Int) - k ≥ g := by first | omega | assumption | rfl) : roundK Try.prog ((S6 0).on [(45, true), (61, true), (68, true), (98, false), (112, false), (97, false)]) noL Try.f6.ntmps 2 (loopOf Try.f6 0) live6 (st6 g N M i at') (hp6 g z N M ds ps ((addrV p, clV a r k true) :: E) ((w16 p, w63 r) :: R) ((w16 p, w63 k) :: K)) on out =
     (on [Value.bool false, Value.int IntKind.i64 g, Value.slice (some (Addr.mk (1 : Nat) (0 : Nat) none)) M (2 : Nat), Value.slice (some (Addr.mk (0 : Nat) (0 : Nat) none)) N (2 : Nat), Value.int
     IntKind.i64 (↑N : Int), Value.int IntKind.i64 ((↑i : Int) + (1 : Int)), Value.pointer (some (Addr.mk (2 : Nat) (0 : Nat) none)), Value.map (some (4 : Nat)), Value.map (some (5 : Nat)), Value.int
     IntKind.i64 (at' + ds.getD i (0 : Int))] [some (Blk.mk false (1 : Nat) [Seg.ints IntKind.u32 N ds]), some (Blk.mk false (1 : Nat) [Seg.ints IntKind.u8 M ps]), some (Blk.mk true (3 : Nat) [Seg.ints
     IntKind.i64 (2 : Nat) [g, at' + ds.getD i (0 : Int)], Seg.vals [Value.map (some (3 : Nat))]]), some (Blk.mk true (0 : Nat) [Seg.mp true ((addrV (IntKind.u16.wrap ((ps.getD i (0 : Int)).tmod (64 :
     Int))), clV (at' + ds.getD i (0 : Int)) (bif false then at' + ds.getD i (0 : Int) else r) (bif false then at' + ds.getD i (0 : Int) else k) true) :: E)]), some (Blk.mk true (0 : Nat) [Seg.mp true
     ((w16 p, w63 r) :: R)]), some (Blk.mk true (0 : Nat) [Seg.mp true ((w16 p, w63 k) :: K)])]) :=
  Eq.trans (b :=
     bif decide ((↑i : Int) < (↑N : Int)) then bif decide ((0 : Int) ≤ (↑i : Int)) && decide ((↑i : Int) < (↑N : Int)) then bif ((0 : Nat) + (↑i : Int).toNat * (1 : Nat)).blt N then bif decide ((0 : Int) ≤
     (↑i : Int)) && decide ((↑i : Int) < (↑M : Int)) then bif ((0 : Nat) + (↑i : Int).toNat * (1 : Nat)).blt M then bif keysV Try.prog (49 : Nat) (1 : Nat) (Value.int IntKind.u16 (IntKind.u16.wrap
     ((ps.getD ((0 : Nat) + (↑i : Int).toNat * (1 : Nat)) (0 : Int)).tmod (64 : Int)))) ((Value.int IntKind.u16 p, Value.int IntKind.i64 r) :: R) then bif IntKind.u16.wrap ((ps.getD ((0 : Nat) + (↑i :
     Int).toNat * (1 : Nat)) (0 : Int)).tmod (64 : Int)) == p then bif keysV Try.prog (49 : Nat) (1 : Nat) (Value.int IntKind.u16 (IntKind.u16.wrap ((ps.getD ((0 : Nat) + (↑i : Int).toNat * (1 : Nat)) (0 :
     Int)).tmod (64 : Int)))) ((Value.int IntKind.u16 p, Value.int IntKind.i64 k) :: K) then bif IntKind.u16.wrap ((ps.getD ((0 : Nat) + (↑i : Int).toNat * (1 : Nat)) (0 : Int)).tmod (64 : Int)) == p then
     bif chk (p = IntKind.u16.wrap ((ps.getD ((0 : Nat) + (↑i : Int).toNat * (1 : Nat)) (0 : Int)).tmod (64 : Int)) ∧ keysV Try.prog (OfNat.ofNat (51 : Nat)) (5 : Nat) (addrV (IntKind.u16.wrap ((ps.getD
     ((0 : Nat) + (↑i : Int).toNat * (1 : Nat)) (0 : Int)).tmod (64 : Int)))) E = true ∧ z ≤ IntKind.i64.wrap (at' + IntKind.i64.wrap (ds.getD ((0 : Nat) + (↑i : Int).toNat * (1 : Nat)) (0 : Int))) ∧ (0 :
     Int) ≤ r ∧ r ≤ IntKind.i64.wrap (at' + IntKind.i64.wrap (ds.getD ((0 : Nat) + (↑i : Int).toNat * (1 : Nat)) (0 : Int))) ∧ (0 : Int) ≤ k ∧ k ≤ IntKind.i64.wrap (at' + IntKind.i64.wrap (ds.getD ((0 :
     Nat) + (↑i : Int).toNat * (1 : Nat)) (0 : Int))) ∧ IntKind.i64.wrap (at' + IntKind.i64.wrap (ds.getD ((0 : Nat) + (↑i : Int).toNat * (1 : Nat)) (0 : Int))) ≤ (4611686018427387904 : Int) ∧ (0 : Int) ≤
     g ∧ g ≤ (4611686018427387904 : Int) ∧ (0 : Int) = if g ≤ IntKind.i64.wrap (at' + IntKind.i64.wrap (ds.getD ((0 : Nat) + (↑i : Int).toNat * (1 : Nat)) (0 : Int))) - r then (1 : Int) else if true =
     false ∨ g ≤ IntKind.i64.wrap (at' + IntKind.i64.wrap (ds.getD ((0 : Nat) + (↑i : Int).toNat * (1 : Nat)) (0 : Int))) - k then (2 : Int) else (0 : Int)) then bif decide (IntKind.i64.wrap
     (IntKind.i64.wrap (at' + IntKind.i64.wrap (ds.getD ((0 : Nat) + (↑i : Int).toNat * (1 : Nat)) (0 : Int))) - r) ≥ g) then none else bif decide (IntKind.i64.wrap (IntKind.i64.wrap (at' +
     IntKind.i64.wrap (ds.getD ((0 : Nat) + (↑i : Int).toNat * (1 : Nat)) (0 : Int))) - k) ≥ g) then none else on [Value.bool false, Value.int IntKind.i64 g, Value.slice (some (Addr.mk (1 : Nat) (0 : Nat)
     none)) M (2 : Nat), Value.slice (some (Addr.mk (0 : Nat) (0 : Nat) none)) N (2 : Nat), Value.int IntKind.i64 (↑N : Int), Value.int IntKind.i64 (IntKind.i64.wrap ((↑i : Int) + (1 : Int))),
     Value.pointer (some (Addr.mk (2 : Nat) (0 : Nat) none)), Value.map (some (4 : Nat)), Value.map (some (5 : Nat)), Value.int IntKind.i64 (IntKind.i64.wrap (at' + IntKind.i64.wrap (ds.getD ((0 : Nat) +
     (↑i : Int).toNat * (1 : Nat)) (0 : Int))))] [some (Blk.mk false (1 : Nat) [Seg.ints IntKind.u32 N ds]), some (Blk.mk false (1 : Nat) [Seg.ints IntKind.u8 M ps]), some (Blk.mk true (3 : Nat) [Seg.ints
     IntKind.i64 (2 : Nat) [g, IntKind.i64.wrap (at' + IntKind.i64.wrap (ds.getD ((0 : Nat) + (↑i : Int).toNat * (1 : Nat)) (0 : Int)))], Seg.vals [Value.map (some (3 : Nat))]]), some (Blk.mk true (0 :
     Nat) [Seg.mp true ((addrV (IntKind.u16.wrap ((ps.getD ((0 : Nat) + (↑i : Int).toNat * (1 : Nat)) (0 : Int)).tmod (64 : Int))), clV (IntKind.i64.wrap (at' + IntKind.i64.wrap (ds.getD ((0 : Nat) + (↑i :
     Int).toNat * (1 : Nat)) (0 : Int)))) (bif false then IntKind.i64.wrap (at' + IntKind.i64.wrap (ds.getD ((0 : Nat) + (↑i : Int).toNat * (1 : Nat)) (0 : Int))) else r) (bif false then IntKind.i64.wrap
     (at' + IntKind.i64.wrap (ds.getD ((0 : Nat) + (↑i : Int).toNat * (1 : Nat)) (0 : Int))) else k) true) :: E)]), some (Blk.mk true (0 : Nat) [Seg.mp true ((w16 p, w63 r) :: R)]), some (Blk.mk true (0 :
     Nat) [Seg.mp true ((w16 p, w63 k) :: K)])] else none else none else none else none else none else none else none else none else none else none) (by kernel_rfl) (by simp only [-eq_self, Int.toNat_natCast, Nat.mul_one, Nat.zero_add, swrap w1.1 w1.2, swrap w2.1 w2.2, swrap w3.1 w3.2, swrap w4.1 w4.2, swrap w5.1 w5.2]; exact (go_t (dec_t h1) (go_t (and_t (dec_t h2) (dec_t h1)) (go_t (blt_t h3) (go_t (and_t (dec_t h2) (dec_t h4)) (go_t (blt_t h5) (go_t h6 (go_t (eqb_t h7) (go_t h8 (go_t (eqb_t h7) (go_t (chk_t h9) (go_f (dec_f h10) (go_f (dec_f h11) rfl)))))))))))))
--CFEND
--CP p6x (g z : Int) (N M : Nat) (at' : Int) (ds ps : List Int) (E R K : List (Value × Value)) (on : List Value → Heap → Out) (out : Exit → List Value → Heap → Out) :: roundK Try.prog (S6a.on [(45, false)]) noL Try.f6.ntmps 2 (loopOf Try.f6 0) live6 (st6 g N M N at') (hp6 g z N M ds ps E R K) on out
theorem p6x (g z : Int) (N M : Nat) (at' : Int) (ds ps : List Int) (E R K : List (Value × Value)) (on : List Value → Heap → Out) (out : Exit → List Value → Heap → Out)
    (h1 : ¬(↑N : Int) < (↑N : Int) := by first | omega | assumption | rfl) : roundK Try.prog (S6a.on [(45, false)]) noL Try.f6.ntmps 2 (loopOf Try.f6 0) live6 (st6 g N M N at') (hp6 g z N M ds ps E R K) on out =
     (out (Exit.exit (0 : Nat)) [Value.bool false, Value.int IntKind.i64 g, Value.slice (some (Addr.mk (1 : Nat) (0 : Nat) none)) M (2 : Nat), Value.slice (some (Addr.mk (0 : Nat) (0 : Nat) none)) N (2 :
     Nat), Value.int IntKind.i64 (↑N : Int), Value.int IntKind.i64 (↑N : Int), Value.pointer (some (Addr.mk (2 : Nat) (0 : Nat) none)), Value.map (some (4 : Nat)), Value.map (some (5 : Nat)), Value.int
     IntKind.i64 at'] [some (Blk.mk false (1 : Nat) [Seg.ints IntKind.u32 N ds]), some (Blk.mk false (1 : Nat) [Seg.ints IntKind.u8 M ps]), some (Blk.mk true (3 : Nat) [Seg.ints IntKind.i64 (2 : Nat) [g,
     z], Seg.vals [Value.map (some (3 : Nat))]]), some (Blk.mk true (0 : Nat) [Seg.mp true E]), some (Blk.mk true (0 : Nat) [Seg.mp true R]), some (Blk.mk true (0 : Nat) [Seg.mp true K])]) :=
  Eq.trans (by kernel_rfl) (go_f (dec_f h1) rfl)
--CFEND
theorem S6a_ok : SpecOK Try.prog S6a := mkS_cons okAskA (mkS_nil _)
theorem S6_ok (v : Int) : SpecOK Try.prog (S6 v) := mkS_cons (okAskO v) (mkS_nil _)
end Go.Proofs.Ythdeanljgdjbhaa.VC
