/- The table of clients: its functions. -/
import Derived.Test.YthdeanljgdjbhaaNX
import Derived.Test.YthdeanljgdjbhaaVX4
namespace Go.Proofs.Ythdeanljgdjbhaa.VC
open Go Go.Proofs

/-- A table: the gap, the greatest counter, the map of clients. -/
abbrev tB (own : Bool) (g z : Int) (m : Nat) : Option Blk := some ⟨own, 3, [.ints .i64 2 [g, z], .vals [.map (some m)]]⟩
abbrev mpB (own : Bool) (E : List (Value × Value)) : Option Blk := some ⟨own, 0, [.mp true E]⟩
abbrev addrV (p : Int) : Value := .agg #[.int .u8 0, .int .u8 0, .int .u8 0, .int .u8 0, .int .u16 p]
abbrev clV (a r k : Int) (d : Bool) : Value := .agg #[w63 a, w63 r, w63 k, .bool d]
--CP cTNew (g : Int) :: fnK Try.prog ((mkS []).on [(9, false)]) noL Try.f19 [w63 g] []
theorem cTNew (g : Int)
    (h1 : ¬g < (1000000000 : Int) := by first | omega | assumption | rfl)
    (h2 : ¬g > (100000000000 : Int) := by first | omega | assumption | rfl) : fnK Try.prog ((mkS []).on [(9, false)]) noL Try.f19 [w63 g] [] =
     (some (Res.ret (Value.tuple (Array.mk [Value.pointer (some (Addr.mk (0 : Nat) (0 : Nat) none)), Value.int IntKind.i64 (0 : Int)])) [some (Blk.mk true (3 : Nat) [Seg.ints IntKind.i64 (2 : Nat) [g,
     (-9223372036854775808 : Int)], Seg.vals [Value.map (some (1 : Nat))]]), some (Blk.mk true (0 : Nat) [Seg.mp true []])])) :=
  Eq.trans (by kernel_rfl) (go_f (dec_f h1) (go_f (dec_f h2) rfl))
--CFEND
--CP cPast (g z c : Int) (E : List (Value × Value)) :: fnK Try.prog (mkS []) noL Try.f38 [pt 0, w63 c] [tB false g z 1, mpB false E]
theorem cPast (g z c : Int) (E : List (Value × Value)) : fnK Try.prog (mkS []) noL Try.f38 [pt 0, w63 c] [tB false g z 1, mpB false E] =
     (some (Res.ret (Value.bool (decide (IntKind.u64.wrap (IntKind.u64.wrap z - IntKind.u64.wrap c) ≥ IntKind.u64.wrap g))) [some (Blk.mk false (3 : Nat) [Seg.ints IntKind.i64 (2 : Nat) [g, z], Seg.vals
     [Value.map (some (1 : Nat))]]), some (Blk.mk false (0 : Nat) [Seg.mp true E])])) :=
  Eq.trans (b :=
     some (Res.ret (Value.bool (decide (IntKind.u64.wrap (IntKind.u64.wrap z - IntKind.u64.wrap c) ≥ IntKind.u64.wrap g))) [some (Blk.mk false (3 : Nat) [Seg.ints IntKind.i64 (2 : Nat) [g, z], Seg.vals
     [Value.map (some (1 : Nat))]]), some (Blk.mk false (0 : Nat) [Seg.mp true E])])) (by kernel_rfl) (by exact rfl)
--CFEND
noncomputable def FPast : FSpec := fun args h k => match args, h with
  | [.pointer (some ⟨0, 0, none⟩), .int .i64 c], [some ⟨false, 3, [.ints .i64 2 [g, z], .vals [.map (some 1)]]⟩, some ⟨false, 0, [.mp true E]⟩] =>
    bif chk (0 ≤ c ∧ c ≤ z ∧ z ≤ 4611686018427387904 ∧ 0 ≤ g ∧ g ≤ 4611686018427387904) then k (.bool (decide (g ≤ z - c))) [tB false g z 1, mpB false E] else none
  | _, _ => none
theorem okPast : EntryOK Try.prog 38 FPast := by
  refine EntryOK.of_paths (fn := Try.f38) follows_ok Try.func38 (by kernel_rfl) (by kernel_rfl) ?_
  intro args h k out hF
  unfold FPast at hF
  split at hF
  · obtain ⟨hb, hF2⟩ := bif_t hF
    obtain ⟨h1, h2, h3, h4, h5⟩ := chk_iff.1 hb
    rename_i c g z E
    refine ⟨_, _, hF2, fun _ => ⟨mkS [], noL, mk0, noL_ok, ?_⟩⟩
    rw [cPast]
    have e : ∀ x : Int, 0 ≤ x → x ≤ 4611686018427387904 → IntKind.u64.wrap x = x := fun x a b => by simp only [IntKind.wrap, IntKind.bits, IntKind.signed, Bool.false_and, Bool.false_eq_true, if_false]; omega
    rw [e z (by omega) (by omega), e c (by omega) (by omega), e (z - c) (by omega) (by omega), e g (by omega) (by omega)]
  · cases hF
noncomputable def S21 : Spec := mkS [(38, false, FPast)]
theorem S21_ok : SpecOK Try.prog S21 := mkS_cons okPast (mkS_nil _)
--CP cAskA (g z p at' : Int) (E : List (Value × Value)) :: fnK Try.prog (S21.on [(18, false), (32, false), (46, false), (54, true), (87, false)]) noL Try.f21 [pt 0, addrV p, w63 at'] [tB true g z 1, mpB true E]
theorem cAskA (g z p at' : Int) (E : List (Value × Value))
    (h1 : keysV Try.prog (51 : Nat) (5 : Nat) (Value.agg (Array.mk [Value.int IntKind.u8 (0 : Int), Value.int IntKind.u8 (0 : Int), Value.int IntKind.u8 (0 : Int), Value.int IntKind.u8 (0 : Int), Value.int IntKind.u16 p])) E = true := by first | omega | assumption | rfl)
    (h2 : missM Try.prog (51 : Nat) (Value.agg (Array.mk [Value.int IntKind.u8 (0 : Int), Value.int IntKind.u8 (0 : Int), Value.int IntKind.u8 (0 : Int), Value.int IntKind.u8 (0 : Int), Value.int IntKind.u16 p])) E = true := by first | omega | assumption | rfl)
    (h3 : E.length ≤ (4611686018427387904 : Nat) := by first | omega | assumption | rfl)
    (h4 : (↑E.length : Int) ≠ (64 : Int) := by first | omega | assumption | rfl) : fnK Try.prog (S21.on [(18, false), (32, false), (46, false), (54, true), (87, false)]) noL Try.f21 [pt 0, addrV p, w63 at'] [tB true g z 1, mpB true E] =
     (some (Res.ret (Value.int IntKind.u8 (1 : Int)) [some (Blk.mk true (3 : Nat) [Seg.ints IntKind.i64 (2 : Nat) [g, if at' > z then at' else z], Seg.vals [Value.map (some (1 : Nat))]]), some (Blk.mk true
     (0 : Nat) [Seg.mp true (E ++ [(Value.agg (Array.mk [Value.int IntKind.u8 (0 : Int), Value.int IntKind.u8 (0 : Int), Value.int IntKind.u8 (0 : Int), Value.int IntKind.u8 (0 : Int), Value.int
     IntKind.u16 p]), Value.agg (Array.mk [Value.int IntKind.i64 (if at' > z then at' else z), Value.int IntKind.i64 (if at' > z then at' else z), Value.int IntKind.i64 (0 : Int), Value.bool
     false]))])])])) :=
  Eq.trans (b :=
     bif keysV Try.prog (51 : Nat) (5 : Nat) (Value.agg (Array.mk [Value.int IntKind.u8 (0 : Int), Value.int IntKind.u8 (0 : Int), Value.int IntKind.u8 (0 : Int), Value.int IntKind.u8 (0 : Int), Value.int
     IntKind.u16 p])) E then bif missM Try.prog (51 : Nat) (Value.agg (Array.mk [Value.int IntKind.u8 (0 : Int), Value.int IntKind.u8 (0 : Int), Value.int IntKind.u8 (0 : Int), Value.int IntKind.u8 (0 :
     Int), Value.int IntKind.u16 p])) E then bif E.length.ble (OfNat.ofNat (4611686018427387904 : Nat)) then bif (↑E.length : Int) == (64 : Int) then none else bif keysV Try.prog (51 : Nat) (5 : Nat)
     (Value.agg (Array.mk [Value.int IntKind.u8 (0 : Int), Value.int IntKind.u8 (0 : Int), Value.int IntKind.u8 (0 : Int), Value.int IntKind.u8 (0 : Int), Value.int IntKind.u16 p])) E && true then bif
     missM Try.prog (51 : Nat) (Value.agg (Array.mk [Value.int IntKind.u8 (0 : Int), Value.int IntKind.u8 (0 : Int), Value.int IntKind.u8 (0 : Int), Value.int IntKind.u8 (0 : Int), Value.int IntKind.u16
     p])) E then some (Res.ret (Value.int IntKind.u8 (1 : Int)) [some (Blk.mk true (3 : Nat) [Seg.ints IntKind.i64 (2 : Nat) [g, if at' > z then at' else z], Seg.vals [Value.map (some (1 : Nat))]]), some
     (Blk.mk true (0 : Nat) [Seg.mp true (E ++ [(Value.agg (Array.mk [Value.int IntKind.u8 (0 : Int), Value.int IntKind.u8 (0 : Int), Value.int IntKind.u8 (0 : Int), Value.int IntKind.u8 (0 : Int),
     Value.int IntKind.u16 p]), Value.agg (Array.mk [Value.int IntKind.i64 (if at' > z then at' else z), Value.int IntKind.i64 (if at' > z then at' else z), Value.int IntKind.i64 (0 : Int), Value.bool
     false]))])])]) else none else none else none else none else none) (by kernel_rfl) (by exact (go_t h1 (go_t h2 (go_t (ble_t h3) (go_f (eqb_f h4) (go_t (and_t h1 rfl) (go_t h2 rfl)))))))
--CFEND
--CP cAskR (g z p at' a r k : Int) (d : Bool) (E : List (Value × Value)) :: fnK Try.prog (S21.on [(18, false), (32, true), (46, false), (54, true), (87, true)]) noL Try.f21 [pt 0, addrV p, w63 at'] [tB true g z 1, mpB true ((addrV p, clV a r k d) :: E)]
theorem cAskR (g z p at' a r k : Int) (d : Bool) (E : List (Value × Value))
    (h1 : keysV Try.prog (51 : Nat) (5 : Nat) (Value.agg (Array.mk [Value.int IntKind.u8 (0 : Int), Value.int IntKind.u8 (0 : Int), Value.int IntKind.u8 (0 : Int), Value.int IntKind.u8 (0 : Int), Value.int IntKind.u16 p])) ((Value.agg (Array.mk [Value.int IntKind.u8 (0 : Int), Value.int IntKind.u8 (0 : Int), Value.int IntKind.u8 (0 : Int), Value.int IntKind.u8 (0 : Int), Value.int IntKind.u16 p]), Value.agg (Array.mk [Value.int IntKind.i64 a, Value.int IntKind.i64 r, Value.int IntKind.i64 k, Value.bool d])) :: E) = true := by first | omega | assumption | rfl)
    (h2 : p = p := by first | omega | assumption | rfl)
    (h3 : (0 : Int) ≤ r ∧ (r ≤ if at' > z then at' else z) ∧ (if at' > z then at' else z) ≤ (4611686018427387904 : Int) ∧ (0 : Int) ≤ g ∧ g ≤ (4611686018427387904 : Int) := by first | omega | assumption | rfl | ((repeat' with_reducible apply And.intro) <;> first | rfl | assumption | omega))
    (h4 : g ≤ (if at' > z then at' else z) - r := by first | omega | assumption | rfl) : fnK Try.prog (S21.on [(18, false), (32, true), (46, false), (54, true), (87, true)]) noL Try.f21 [pt 0, addrV p, w63 at'] [tB true g z 1, mpB true ((addrV p, clV a r k d) :: E)] =
     (some (Res.ret (Value.int IntKind.u8 (1 : Int)) [some (Blk.mk true (3 : Nat) [Seg.ints IntKind.i64 (2 : Nat) [g, if at' > z then at' else z], Seg.vals [Value.map (some (1 : Nat))]]), some (Blk.mk true
     (0 : Nat) [Seg.mp true ((Value.agg (Array.mk [Value.int IntKind.u8 (0 : Int), Value.int IntKind.u8 (0 : Int), Value.int IntKind.u8 (0 : Int), Value.int IntKind.u8 (0 : Int), Value.int IntKind.u16 p]),
     Value.agg (Array.mk [Value.int IntKind.i64 (if at' > z then at' else z), Value.int IntKind.i64 (if at' > z then at' else z), Value.int IntKind.i64 k, Value.bool d])) :: E)])])) :=
  Eq.trans (b :=
     bif keysV Try.prog (51 : Nat) (5 : Nat) (Value.agg (Array.mk [Value.int IntKind.u8 (0 : Int), Value.int IntKind.u8 (0 : Int), Value.int IntKind.u8 (0 : Int), Value.int IntKind.u8 (0 : Int), Value.int
     IntKind.u16 p])) ((Value.agg (Array.mk [Value.int IntKind.u8 (0 : Int), Value.int IntKind.u8 (0 : Int), Value.int IntKind.u8 (0 : Int), Value.int IntKind.u8 (0 : Int), Value.int IntKind.u16 p]),
     Value.agg (Array.mk [Value.int IntKind.i64 a, Value.int IntKind.i64 r, Value.int IntKind.i64 k, Value.bool d])) :: E) then bif p == p && true then bif chk ((0 : Int) ≤ r ∧ (r ≤ if at' > z then at'
     else z) ∧ (if at' > z then at' else z) ≤ (4611686018427387904 : Int) ∧ (0 : Int) ≤ g ∧ g ≤ (4611686018427387904 : Int)) then bif decide (g ≤ (if at' > z then at' else z) - r) then bif keysV Try.prog
     (51 : Nat) (5 : Nat) (Value.agg (Array.mk [Value.int IntKind.u8 (0 : Int), Value.int IntKind.u8 (0 : Int), Value.int IntKind.u8 (0 : Int), Value.int IntKind.u8 (0 : Int), Value.int IntKind.u16 p]))
     ((Value.agg (Array.mk [Value.int IntKind.u8 (0 : Int), Value.int IntKind.u8 (0 : Int), Value.int IntKind.u8 (0 : Int), Value.int IntKind.u8 (0 : Int), Value.int IntKind.u16 p]), Value.agg (Array.mk
     [Value.int IntKind.i64 a, Value.int IntKind.i64 r, Value.int IntKind.i64 k, Value.bool d])) :: E) && true then bif p == p && true then some (Res.ret (Value.int IntKind.u8 (1 : Int)) [some (Blk.mk true
     (3 : Nat) [Seg.ints IntKind.i64 (2 : Nat) [g, if at' > z then at' else z], Seg.vals [Value.map (some (1 : Nat))]]), some (Blk.mk true (0 : Nat) [Seg.mp true ((Value.agg (Array.mk [Value.int IntKind.u8
     (0 : Int), Value.int IntKind.u8 (0 : Int), Value.int IntKind.u8 (0 : Int), Value.int IntKind.u8 (0 : Int), Value.int IntKind.u16 p]), Value.agg (Array.mk [Value.int IntKind.i64 (if at' > z then at'
     else z), Value.int IntKind.i64 (if at' > z then at' else z), Value.int IntKind.i64 k, Value.bool d])) :: E)])]) else none else none else none else none else none else none) (by kernel_rfl) (by exact (go_t h1 (go_t (and_t (eqb_t h2) rfl) (go_t (chk_t h3) (go_t (dec_t h4) (go_t (and_t h1 rfl) (go_t (and_t (eqb_t h2) rfl) rfl)))))))
--CFEND
--CP cAskK0 (g z p at' a r k : Int) (E : List (Value × Value)) :: fnK Try.prog (S21.on [(18, false), (32, true), (46, false), (54, false), (68, true), (87, true)]) noL Try.f21 [pt 0, addrV p, w63 at'] [tB true g z 1, mpB true ((addrV p, clV a r k false) :: E)]
theorem cAskK0 (g z p at' a r k : Int) (E : List (Value × Value))
    (h1 : keysV Try.prog (51 : Nat) (5 : Nat) (Value.agg (Array.mk [Value.int IntKind.u8 (0 : Int), Value.int IntKind.u8 (0 : Int), Value.int IntKind.u8 (0 : Int), Value.int IntKind.u8 (0 : Int), Value.int IntKind.u16 p])) ((Value.agg (Array.mk [Value.int IntKind.u8 (0 : Int), Value.int IntKind.u8 (0 : Int), Value.int IntKind.u8 (0 : Int), Value.int IntKind.u8 (0 : Int), Value.int IntKind.u16 p]), Value.agg (Array.mk [Value.int IntKind.i64 a, Value.int IntKind.i64 r, Value.int IntKind.i64 k, Value.bool false])) :: E) = true := by first | omega | assumption | rfl)
    (h2 : p = p := by first | omega | assumption | rfl)
    (h3 : (0 : Int) ≤ r ∧ (r ≤ if at' > z then at' else z) ∧ (if at' > z then at' else z) ≤ (4611686018427387904 : Int) ∧ (0 : Int) ≤ g ∧ g ≤ (4611686018427387904 : Int) := by first | omega | assumption | rfl | ((repeat' with_reducible apply And.intro) <;> first | rfl | assumption | omega))
    (h4 : ¬g ≤ (if at' > z then at' else z) - r := by first | omega | assumption | rfl) : fnK Try.prog (S21.on [(18, false), (32, true), (46, false), (54, false), (68, true), (87, true)]) noL Try.f21 [pt 0, addrV p, w63 at'] [tB true g z 1, mpB true ((addrV p, clV a r k false) :: E)] =
     (some (Res.ret (Value.int IntKind.u8 (2 : Int)) [some (Blk.mk true (3 : Nat) [Seg.ints IntKind.i64 (2 : Nat) [g, if at' > z then at' else z], Seg.vals [Value.map (some (1 : Nat))]]), some (Blk.mk true
     (0 : Nat) [Seg.mp true ((Value.agg (Array.mk [Value.int IntKind.u8 (0 : Int), Value.int IntKind.u8 (0 : Int), Value.int IntKind.u8 (0 : Int), Value.int IntKind.u8 (0 : Int), Value.int IntKind.u16 p]),
     Value.agg (Array.mk [Value.int IntKind.i64 (if at' > z then at' else z), Value.int IntKind.i64 r, Value.int IntKind.i64 (if at' > z then at' else z), Value.bool true])) :: E)])])) :=
  Eq.trans (b :=
     bif keysV Try.prog (51 : Nat) (5 : Nat) (Value.agg (Array.mk [Value.int IntKind.u8 (0 : Int), Value.int IntKind.u8 (0 : Int), Value.int IntKind.u8 (0 : Int), Value.int IntKind.u8 (0 : Int), Value.int
     IntKind.u16 p])) ((Value.agg (Array.mk [Value.int IntKind.u8 (0 : Int), Value.int IntKind.u8 (0 : Int), Value.int IntKind.u8 (0 : Int), Value.int IntKind.u8 (0 : Int), Value.int IntKind.u16 p]),
     Value.agg (Array.mk [Value.int IntKind.i64 a, Value.int IntKind.i64 r, Value.int IntKind.i64 k, Value.bool false])) :: E) then bif p == p && true then bif chk ((0 : Int) ≤ r ∧ (r ≤ if at' > z then at'
     else z) ∧ (if at' > z then at' else z) ≤ (4611686018427387904 : Int) ∧ (0 : Int) ≤ g ∧ g ≤ (4611686018427387904 : Int)) then bif decide (g ≤ (if at' > z then at' else z) - r) then none else bif keysV
     Try.prog (51 : Nat) (5 : Nat) (Value.agg (Array.mk [Value.int IntKind.u8 (0 : Int), Value.int IntKind.u8 (0 : Int), Value.int IntKind.u8 (0 : Int), Value.int IntKind.u8 (0 : Int), Value.int
     IntKind.u16 p])) ((Value.agg (Array.mk [Value.int IntKind.u8 (0 : Int), Value.int IntKind.u8 (0 : Int), Value.int IntKind.u8 (0 : Int), Value.int IntKind.u8 (0 : Int), Value.int IntKind.u16 p]),
     Value.agg (Array.mk [Value.int IntKind.i64 a, Value.int IntKind.i64 r, Value.int IntKind.i64 k, Value.bool false])) :: E) && true then bif p == p && true then some (Res.ret (Value.int IntKind.u8 (2 :
     Int)) [some (Blk.mk true (3 : Nat) [Seg.ints IntKind.i64 (2 : Nat) [g, if at' > z then at' else z], Seg.vals [Value.map (some (1 : Nat))]]), some (Blk.mk true (0 : Nat) [Seg.mp true ((Value.agg
     (Array.mk [Value.int IntKind.u8 (0 : Int), Value.int IntKind.u8 (0 : Int), Value.int IntKind.u8 (0 : Int), Value.int IntKind.u8 (0 : Int), Value.int IntKind.u16 p]), Value.agg (Array.mk [Value.int
     IntKind.i64 (if at' > z then at' else z), Value.int IntKind.i64 r, Value.int IntKind.i64 (if at' > z then at' else z), Value.bool true])) :: E)])]) else none else none else none else none else none) (by kernel_rfl) (by exact (go_t h1 (go_t (and_t (eqb_t h2) rfl) (go_t (chk_t h3) (go_f (dec_f h4) (go_t (and_t h1 rfl) (go_t (and_t (eqb_t h2) rfl) rfl)))))))
--CFEND
--CP cAskK1 (g z p at' a r k : Int) (E : List (Value × Value)) :: fnK Try.prog (S21.on [(18, false), (32, true), (46, false), (54, false), (68, true), (87, true)]) noL Try.f21 [pt 0, addrV p, w63 at'] [tB true g z 1, mpB true ((addrV p, clV a r k true) :: E)]
theorem cAskK1 (g z p at' a r k : Int) (E : List (Value × Value))
    (h1 : keysV Try.prog (51 : Nat) (5 : Nat) (Value.agg (Array.mk [Value.int IntKind.u8 (0 : Int), Value.int IntKind.u8 (0 : Int), Value.int IntKind.u8 (0 : Int), Value.int IntKind.u8 (0 : Int), Value.int IntKind.u16 p])) ((Value.agg (Array.mk [Value.int IntKind.u8 (0 : Int), Value.int IntKind.u8 (0 : Int), Value.int IntKind.u8 (0 : Int), Value.int IntKind.u8 (0 : Int), Value.int IntKind.u16 p]), Value.agg (Array.mk [Value.int IntKind.i64 a, Value.int IntKind.i64 r, Value.int IntKind.i64 k, Value.bool true])) :: E) = true := by first | omega | assumption | rfl)
    (h2 : p = p := by first | omega | assumption | rfl)
    (h3 : (0 : Int) ≤ r ∧ (r ≤ if at' > z then at' else z) ∧ (if at' > z then at' else z) ≤ (4611686018427387904 : Int) ∧ (0 : Int) ≤ g ∧ g ≤ (4611686018427387904 : Int) := by first | omega | assumption | rfl | ((repeat' with_reducible apply And.intro) <;> first | rfl | assumption | omega))
    (h4 : ¬g ≤ (if at' > z then at' else z) - r := by first | omega | assumption | rfl)
    (h5 : (0 : Int) ≤ k ∧ (k ≤ if at' > z then at' else z) ∧ (if at' > z then at' else z) ≤ (4611686018427387904 : Int) ∧ (0 : Int) ≤ g ∧ g ≤ (4611686018427387904 : Int) := by first | omega | assumption | rfl | ((repeat' with_reducible apply And.intro) <;> first | rfl | assumption | omega))
    (h6 : g ≤ (if at' > z then at' else z) - k := by first | omega | assumption | rfl) : fnK Try.prog (S21.on [(18, false), (32, true), (46, false), (54, false), (68, true), (87, true)]) noL Try.f21 [pt 0, addrV p, w63 at'] [tB true g z 1, mpB true ((addrV p, clV a r k true) :: E)] =
     (some (Res.ret (Value.int IntKind.u8 (2 : Int)) [some (Blk.mk true (3 : Nat) [Seg.ints IntKind.i64 (2 : Nat) [g, if at' > z then at' else z], Seg.vals [Value.map (some (1 : Nat))]]), some (Blk.mk true
     (0 : Nat) [Seg.mp true ((Value.agg (Array.mk [Value.int IntKind.u8 (0 : Int), Value.int IntKind.u8 (0 : Int), Value.int IntKind.u8 (0 : Int), Value.int IntKind.u8 (0 : Int), Value.int IntKind.u16 p]),
     Value.agg (Array.mk [Value.int IntKind.i64 (if at' > z then at' else z), Value.int IntKind.i64 r, Value.int IntKind.i64 (if at' > z then at' else z), Value.bool true])) :: E)])])) :=
  Eq.trans (b :=
     bif keysV Try.prog (51 : Nat) (5 : Nat) (Value.agg (Array.mk [Value.int IntKind.u8 (0 : Int), Value.int IntKind.u8 (0 : Int), Value.int IntKind.u8 (0 : Int), Value.int IntKind.u8 (0 : Int), Value.int
     IntKind.u16 p])) ((Value.agg (Array.mk [Value.int IntKind.u8 (0 : Int), Value.int IntKind.u8 (0 : Int), Value.int IntKind.u8 (0 : Int), Value.int IntKind.u8 (0 : Int), Value.int IntKind.u16 p]),
     Value.agg (Array.mk [Value.int IntKind.i64 a, Value.int IntKind.i64 r, Value.int IntKind.i64 k, Value.bool true])) :: E) then bif p == p && true then bif chk ((0 : Int) ≤ r ∧ (r ≤ if at' > z then at'
     else z) ∧ (if at' > z then at' else z) ≤ (4611686018427387904 : Int) ∧ (0 : Int) ≤ g ∧ g ≤ (4611686018427387904 : Int)) then bif decide (g ≤ (if at' > z then at' else z) - r) then none else bif chk
     ((0 : Int) ≤ k ∧ (k ≤ if at' > z then at' else z) ∧ (if at' > z then at' else z) ≤ (4611686018427387904 : Int) ∧ (0 : Int) ≤ g ∧ g ≤ (4611686018427387904 : Int)) then bif decide (g ≤ (if at' > z then
     at' else z) - k) then bif keysV Try.prog (51 : Nat) (5 : Nat) (Value.agg (Array.mk [Value.int IntKind.u8 (0 : Int), Value.int IntKind.u8 (0 : Int), Value.int IntKind.u8 (0 : Int), Value.int IntKind.u8
     (0 : Int), Value.int IntKind.u16 p])) ((Value.agg (Array.mk [Value.int IntKind.u8 (0 : Int), Value.int IntKind.u8 (0 : Int), Value.int IntKind.u8 (0 : Int), Value.int IntKind.u8 (0 : Int), Value.int
     IntKind.u16 p]), Value.agg (Array.mk [Value.int IntKind.i64 a, Value.int IntKind.i64 r, Value.int IntKind.i64 k, Value.bool true])) :: E) && true then bif p == p && true then some (Res.ret (Value.int
     IntKind.u8 (2 : Int)) [some (Blk.mk true (3 : Nat) [Seg.ints IntKind.i64 (2 : Nat) [g, if at' > z then at' else z], Seg.vals [Value.map (some (1 : Nat))]]), some (Blk.mk true (0 : Nat) [Seg.mp true
     ((Value.agg (Array.mk [Value.int IntKind.u8 (0 : Int), Value.int IntKind.u8 (0 : Int), Value.int IntKind.u8 (0 : Int), Value.int IntKind.u8 (0 : Int), Value.int IntKind.u16 p]), Value.agg (Array.mk
     [Value.int IntKind.i64 (if at' > z then at' else z), Value.int IntKind.i64 r, Value.int IntKind.i64 (if at' > z then at' else z), Value.bool true])) :: E)])]) else none else none else none else none
     else none else none else none) (by kernel_rfl) (by exact (go_t h1 (go_t (and_t (eqb_t h2) rfl) (go_t (chk_t h3) (go_f (dec_f h4) (go_t (chk_t h5) (go_t (dec_t h6) (go_t (and_t h1 rfl) (go_t (and_t (eqb_t h2) rfl) rfl)))))))))
--CFEND
--CP cAskN (g z p at' a r k : Int) (E : List (Value × Value)) :: fnK Try.prog (S21.on [(18, false), (32, true), (46, false), (54, false), (68, false), (87, true)]) noL Try.f21 [pt 0, addrV p, w63 at'] [tB true g z 1, mpB true ((addrV p, clV a r k true) :: E)]
theorem cAskN (g z p at' a r k : Int) (E : List (Value × Value))
    (h1 : keysV Try.prog (51 : Nat) (5 : Nat) (Value.agg (Array.mk [Value.int IntKind.u8 (0 : Int), Value.int IntKind.u8 (0 : Int), Value.int IntKind.u8 (0 : Int), Value.int IntKind.u8 (0 : Int), Value.int IntKind.u16 p])) ((Value.agg (Array.mk [Value.int IntKind.u8 (0 : Int), Value.int IntKind.u8 (0 : Int), Value.int IntKind.u8 (0 : Int), Value.int IntKind.u8 (0 : Int), Value.int IntKind.u16 p]), Value.agg (Array.mk [Value.int IntKind.i64 a, Value.int IntKind.i64 r, Value.int IntKind.i64 k, Value.bool true])) :: E) = true := by first | omega | assumption | rfl)
    (h2 : p = p := by first | omega | assumption | rfl)
    (h3 : (0 : Int) ≤ r ∧ (r ≤ if at' > z then at' else z) ∧ (if at' > z then at' else z) ≤ (4611686018427387904 : Int) ∧ (0 : Int) ≤ g ∧ g ≤ (4611686018427387904 : Int) := by first | omega | assumption | rfl | ((repeat' with_reducible apply And.intro) <;> first | rfl | assumption | omega))
    (h4 : ¬g ≤ (if at' > z then at' else z) - r := by first | omega | assumption | rfl)
    (h5 : (0 : Int) ≤ k ∧ (k ≤ if at' > z then at' else z) ∧ (if at' > z then at' else z) ≤ (4611686018427387904 : Int) ∧ (0 : Int) ≤ g ∧ g ≤ (4611686018427387904 : Int) := by first | omega | assumption | rfl | ((repeat' with_reducible apply And.intro) <;> first | rfl | assumption | omega))
    (h6 : ¬g ≤ (if at' > z then at' else z) - k := by first | omega | assumption | rfl) : fnK Try.prog (S21.on [(18, false), (32, true), (46, false), (54, false), (68, false), (87, true)]) noL Try.f21 [pt 0, addrV p, w63 at'] [tB true g z 1, mpB true ((addrV p, clV a r k true) :: E)] =
     (some (Res.ret (Value.int IntKind.u8 (0 : Int)) [some (Blk.mk true (3 : Nat) [Seg.ints IntKind.i64 (2 : Nat) [g, if at' > z then at' else z], Seg.vals [Value.map (some (1 : Nat))]]), some (Blk.mk true
     (0 : Nat) [Seg.mp true ((Value.agg (Array.mk [Value.int IntKind.u8 (0 : Int), Value.int IntKind.u8 (0 : Int), Value.int IntKind.u8 (0 : Int), Value.int IntKind.u8 (0 : Int), Value.int IntKind.u16 p]),
     Value.agg (Array.mk [Value.int IntKind.i64 (if at' > z then at' else z), Value.int IntKind.i64 r, Value.int IntKind.i64 k, Value.bool true])) :: E)])])) :=
  Eq.trans (b :=
     bif keysV Try.prog (51 : Nat) (5 : Nat) (Value.agg (Array.mk [Value.int IntKind.u8 (0 : Int), Value.int IntKind.u8 (0 : Int), Value.int IntKind.u8 (0 : Int), Value.int IntKind.u8 (0 : Int), Value.int
     IntKind.u16 p])) ((Value.agg (Array.mk [Value.int IntKind.u8 (0 : Int), Value.int IntKind.u8 (0 : Int), Value.int IntKind.u8 (0 : Int), Value.int IntKind.u8 (0 : Int), Value.int IntKind.u16 p]),
     Value.agg (Array.mk [Value.int IntKind.i64 a, Value.int IntKind.i64 r, Value.int IntKind.i64 k, Value.bool true])) :: E) then bif p == p && true then bif chk ((0 : Int) ≤ r ∧ (r ≤ if at' > z then at'
     else z) ∧ (if at' > z then at' else z) ≤ (4611686018427387904 : Int) ∧ (0 : Int) ≤ g ∧ g ≤ (4611686018427387904 : Int)) then bif decide (g ≤ (if at' > z then at' else z) - r) then none else bif chk
     ((0 : Int) ≤ k ∧ (k ≤ if at' > z then at' else z) ∧ (if at' > z then at' else z) ≤ (4611686018427387904 : Int) ∧ (0 : Int) ≤ g ∧ g ≤ (4611686018427387904 : Int)) then bif decide (g ≤ (if at' > z then
     at' else z) - k) then none else bif keysV Try.prog (51 : Nat) (5 : Nat) (Value.agg (Array.mk [Value.int IntKind.u8 (0 : Int), Value.int IntKind.u8 (0 : Int), Value.int IntKind.u8 (0 : Int), Value.int
     IntKind.u8 (0 : Int), Value.int IntKind.u16 p])) ((Value.agg (Array.mk [Value.int IntKind.u8 (0 : Int), Value.int IntKind.u8 (0 : Int), Value.int IntKind.u8 (0 : Int), Value.int IntKind.u8 (0 : Int),
     Value.int IntKind.u16 p]), Value.agg (Array.mk [Value.int IntKind.i64 a, Value.int IntKind.i64 r, Value.int IntKind.i64 k, Value.bool true])) :: E) && true then bif p == p && true then some (Res.ret
     (Value.int IntKind.u8 (0 : Int)) [some (Blk.mk true (3 : Nat) [Seg.ints IntKind.i64 (2 : Nat) [g, if at' > z then at' else z], Seg.vals [Value.map (some (1 : Nat))]]), some (Blk.mk true (0 : Nat)
     [Seg.mp true ((Value.agg (Array.mk [Value.int IntKind.u8 (0 : Int), Value.int IntKind.u8 (0 : Int), Value.int IntKind.u8 (0 : Int), Value.int IntKind.u8 (0 : Int), Value.int IntKind.u16 p]), Value.agg
     (Array.mk [Value.int IntKind.i64 (if at' > z then at' else z), Value.int IntKind.i64 r, Value.int IntKind.i64 k, Value.bool true])) :: E)])]) else none else none else none else none else none else
     none) (by kernel_rfl) (by exact (go_t h1 (go_t (and_t (eqb_t h2) rfl) (go_t (chk_t h3) (go_f (dec_f h4) (go_t (chk_t h5) (go_f (dec_f h6) (go_t (and_t h1 rfl) (go_t (and_t (eqb_t h2) rfl) rfl)))))))))
--CFEND
/-- A client: its port, when it asked, was replied to, was told RATE. -/
structure Cl where
  p : Int
  a : Int
  r : Int
  k : Int
  d : Bool
def tE (ts : List Cl) : List (Value × Value) := ts.map fun c => (addrV c.p, clV c.a c.r c.k c.d)
theorem eqA (p q : Int) : eqV Try.prog 20 51 (addrV p) (addrV q) = some (p == q && true) := by kernel_rfl
theorem keyA (p : Int) : keyV Try.prog 51 5 (addrV p) = true := by kernel_rfl
theorem keysV_cons {P : Program} {kt : TypeId} {n : Nat} {key k v : Value} {r : List (Value × Value)} {b : Bool} (h1 : keyV P kt n k = true) (h2 : eqV P 20 kt key k = some b) (h3 : keysV P kt n key r = true) : keysV P kt n key ((k, v) :: r) = true := by
  simp only [keysV, h1, h2, h3]; rfl
theorem missM_cons {P : Program} {kt : TypeId} {key k v : Value} {r : List (Value × Value)} {b : Bool} (h2 : eqV P 20 kt key k = some b) (hb : b = false) (h3 : missM P kt key r = true) : missM P kt key ((k, v) :: r) = true := by
  subst hb
  simp only [missM, h2, h3]; rfl
theorem keysA (p : Int) : ∀ ts : List Cl, keysV Try.prog 51 5 (addrV p) (tE ts) = true
  | [] => rfl
  | c :: ts => keysV_cons (keyA c.p) (eqA p c.p) (keysA p ts)
theorem missA (p : Int) : ∀ ts : List Cl, (∀ c ∈ ts, c.p ≠ p) → missM Try.prog 51 (addrV p) (tE ts) = true
  | [], _ => rfl
  | c :: ts, h => by
    have e : (p == c.p) = false := beq_eq_false_iff_ne.2 fun e => h c (List.mem_cons_self ..) e.symm
    exact missM_cons (eqA p c.p) (by rw [e]; rfl) (missA p ts (fun x hx => h x (List.mem_cons_of_mem _ hx)))
/-- One that is not remembered asks. -/
noncomputable def FAskA : FSpec := fun args h k => match args, h with
  | [.pointer (some ⟨0, 0, none⟩), .agg ⟨[.int .u8 0, .int .u8 0, .int .u8 0, .int .u8 0, .int .u16 p]⟩, .int .i64 at'], [some ⟨true, 3, [.ints .i64 2 [g, z], .vals [.map (some 1)]]⟩, some ⟨true, 0, [.mp true E]⟩] =>
    bif chk (keysV Try.prog 51 5 (addrV p) E = true ∧ missM Try.prog 51 (addrV p) E = true ∧ E.length < 64 ∧ z ≤ at') then
      k (.int .u8 1) [tB true g at' 1, mpB true (E ++ [(addrV p, clV at' at' 0 false)])] else none
  | _, _ => none
theorem okAskA : EntryOK Try.prog 21 FAskA := by
  refine EntryOK.of_paths (fn := Try.f21) follows_ok Try.func21 (by kernel_rfl) (by kernel_rfl) ?_
  intro args h k out hF
  unfold FAskA at hF
  split at hF
  · obtain ⟨hb, hF2⟩ := bif_t hF
    obtain ⟨h1, h2, h3, h4⟩ := chk_iff.1 hb
    rename_i p at' g z E
    refine ⟨_, _, hF2, fun _ => ⟨S21.on [(18, false), (32, false), (46, false), (54, true), (87, false)], noL, S21_ok, noL_ok, ?_⟩⟩
    have := cAskA g z p at' E h1 h2 (by omega) (by omega)
    rw [show (if at' > z then at' else z) = at' by split <;> omega] at this
    exact this
  · cases hF
/-- One that is remembered asks: of what becomes of it, by its verdict. -/
noncomputable def FAskO (v : Int) : FSpec := fun args h k => match args, h with
  | [.pointer (some ⟨0, 0, none⟩), .agg ⟨[.int .u8 0, .int .u8 0, .int .u8 0, .int .u8 0, .int .u16 p]⟩, .int .i64 at'], [some ⟨true, 3, [.ints .i64 2 [g, z], .vals [.map (some 1)]]⟩, some ⟨true, 0, [.mp true ((.agg ⟨[.int .u8 0, .int .u8 0, .int .u8 0, .int .u8 0, .int .u16 q]⟩, .agg ⟨[.int .i64 _, .int .i64 r, .int .i64 c, .bool d]⟩) :: E)]⟩] =>
    bif chk (q = p ∧ keysV Try.prog 51 5 (addrV p) E = true ∧ z ≤ at' ∧ 0 ≤ r ∧ r ≤ at' ∧ 0 ≤ c ∧ c ≤ at' ∧ at' ≤ 4611686018427387904 ∧ 0 ≤ g ∧ g ≤ 4611686018427387904 ∧
        v = (if g ≤ at' - r then 1 else if d = false ∨ g ≤ at' - c then 2 else 0)) then
      k (.int .u8 v) [tB true g at' 1, mpB true ((addrV p, clV at' (bif decide (v = 1) then at' else r) (bif decide (v = 2) then at' else c) (bif decide (v = 2) then true else d)) :: E)] else none
  | _, _ => none
theorem okAskO (v : Int) : EntryOK Try.prog 21 (FAskO v) := by
  refine EntryOK.of_paths (fn := Try.f21) follows_ok Try.func21 (by kernel_rfl) (by kernel_rfl) ?_
  intro args h k out hF
  unfold FAskO at hF
  split at hF
  · obtain ⟨hb, hF2⟩ := bif_t hF
    obtain ⟨rfl, h1, h2, h3, h4, h5, h6, h7, h8, h9, hv⟩ := chk_iff.1 hb
    rename_i at' g z p a r c d E
    have hm : (if at' > z then at' else z) = at' := by split <;> omega
    have hk : keysV Try.prog 51 5 (addrV p) ((addrV p, clV a r c d) :: E) = true := by
      exact keysV_cons (keyA p) (eqA p p) h1
    by_cases c1 : g ≤ at' - r
    · rw [if_pos c1] at hv
      subst hv
      refine ⟨_, _, hF2, fun _ => ⟨S21.on [(18, false), (32, true), (46, false), (54, true), (87, true)], noL, S21_ok, noL_ok, ?_⟩⟩
      have := cAskR g z p at' a r c d E hk rfl ⟨h3, by rw [hm]; exact h4, by rw [hm]; exact h7, h8, h9⟩ (by rw [hm]; exact c1)
      rw [hm] at this
      exact this
    · rw [if_neg c1] at hv
      by_cases c2 : d = false ∨ g ≤ at' - c
      · rw [if_pos c2] at hv
        subst hv
        refine ⟨_, _, hF2, fun _ => ⟨S21.on [(18, false), (32, true), (46, false), (54, false), (68, true), (87, true)], noL, S21_ok, noL_ok, ?_⟩⟩
        cases d with
        | false =>
          have := cAskK0 g z p at' a r c E hk rfl ⟨h3, by rw [hm]; exact h4, by rw [hm]; exact h7, h8, h9⟩ (by rw [hm]; exact c1)
          rw [hm] at this
          exact this
        | true =>
          have := cAskK1 g z p at' a r c E hk rfl ⟨h3, by rw [hm]; exact h4, by rw [hm]; exact h7, h8, h9⟩ (by rw [hm]; exact c1) ⟨h5, by rw [hm]; exact h6, by rw [hm]; exact h7, h8, h9⟩ (by rw [hm]; rcases c2 with c2 | c2; cases c2; exact c2)
          rw [hm] at this
          exact this
      · rw [if_neg c2] at hv
        subst hv
        refine ⟨_, _, hF2, fun _ => ⟨S21.on [(18, false), (32, true), (46, false), (54, false), (68, false), (87, true)], noL, S21_ok, noL_ok, ?_⟩⟩
        cases d with
        | false => exact absurd (.inl rfl) c2
        | true =>
          have := cAskN g z p at' a r c E hk rfl ⟨h3, by rw [hm]; exact h4, by rw [hm]; exact h7, h8, h9⟩ (by rw [hm]; exact c1) ⟨h5, by rw [hm]; exact h6, by rw [hm]; exact h7, h8, h9⟩ (by rw [hm]; exact fun e => c2 (.inr e))
          rw [hm] at this
          exact this
  · cases hF
end Go.Proofs.Ythdeanljgdjbhaa.VC
