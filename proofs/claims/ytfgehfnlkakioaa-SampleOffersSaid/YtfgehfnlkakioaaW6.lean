/- Pieces that may return; the document's answer for samples. -/
import Derived.Test.YtfgehfnlkakioaaW5
namespace Go.Proofs.Ytfgehfnlkakioaa.VC
open Go Go.Proofs

/-- A piece: out of the function, or on with some slots alone. -/
def pieceR (P : Program) (S : Spec) (L : LSpec) (fn : Func) (m : Nat) (live : List Nat) (c : Code) (s : Slots) (h : Heap) : Out := codeK P S L fn.ntmps m c s h fun e s h => match e with
  | .normal => cutS m live s h fun vs h => some (.at .normal (zipS live vs) h)
  | e => resOut P fn m e s h

section
variable {P : Program} {S : Spec} {L : LSpec} {fn : Func} {m : Nat}
theorem RunsTo.pieceN (hS : SpecOK P S) (hm : P.follows .mixedOrders = true) {c : Code} (hs : isSeq c = true) {live : List Nat} (hL : LoopsOK P L fn.ntmps m (fstC c)) {s : Slots} {h h1 h' : Heap} {v : Value} {vs1 : List Value}
    (hk : pieceR P S L fn m live (fstC c) s h = some (.at .normal (zipS live vs1) h1)) (h2 : RunsTo P fn m (sndC c) (zipS live vs1) h1 v h') : RunsTo P fn m c s h v h' := by
  cases c with
  | seq a b =>
    obtain ⟨e, s1, hh, q1, q2⟩ := codeK_sound hS hm hL hk
    obtain ⟨e2, s2, hh2, r1, r2⟩ := h2
    have no : ∀ {e : Exit}, resOut P fn m e s1 hh = some (.at .normal (zipS live vs1) h1) → False := by
      intro e hq
      have key : ∀ {l : List ResultVar} {k : List Value → Out}, (∀ vs, k vs ≠ some (.at .normal (zipS live vs1) h1)) → resK P s1 hh l k ≠ some (.at .normal (zipS live vs1) h1) := by
        intro l k hk2 hq2
        obtain ⟨vs, r1, _⟩ := resK_some (n := 0) hq2
        exact hk2 vs r1
      have fin : ∀ vs : List Value, (cutP m hh [tupled vs] (reach hh (tupled vs :: contents hh m) (List.range m)) fun vs h2 => match vs with
          | [v] => some (.ret v h2)
          | _ => none) ≠ some (.at .normal (zipS live vs1) h1) := by
        intro vs hq2
        obtain ⟨vs2, h3, c1, _⟩ := cutP_some hq2
        split at c1 <;> cases c1
      cases e <;> simp only [resOut] at hq <;> first | exact key fin hq | cases hq
    have he : e = .normal := by
      cases e with
      | normal => rfl
      | _ => exact (no q1).elim
    subst he
    simp only [cutS] at q1
    split at q1
    · rename_i vs hvs
      obtain ⟨vs2, h3, c1, c2, c3, c4, c5, c6⟩ := cutP_some q1
      simp only [Option.some.injEq, Res.at.injEq] at c1
      obtain ⟨_, c1, rfl⟩ := c1
      refine ⟨e2, s2, hh2, fun ι0 base h0 w0 e0 hd ι a' w Q hst hq => wp_seq (q2 ι0 base h0 w0 e0 hd ι a' w _ hst fun a2 w2 ⟨ι', st⟩ => ?_), r2⟩
      have st2 := st.cut hd c2 (by rw [e0]; exact c6) c5 (st.sr.zip (cut_keeps _ _) hvs c4)
      rw [c1] at st2
      exact r1 ι0 base h0 w0 e0 hd _ a2 w2 Q st2 hq
    · cases q1
  | _ => cases hs

theorem RunsTo.early (hS : SpecOK P S) (hm : P.follows .mixedOrders = true) {c : Code} (hs : isSeq c = true) {live : List Nat} (hL : LoopsOK P L fn.ntmps m (fstC c)) {s : Slots} {h h' : Heap} {v : Value}
    (hk : pieceR P S L fn m live (fstC c) s h = some (.ret v h')) : RunsTo P fn m c s h v h' := by
  cases c with
  | seq a b =>
    obtain ⟨e, s1, hh, q1, q2⟩ := codeK_sound hS hm hL hk
    cases e with
    | normal =>
      simp only [cutS] at q1
      split at q1
      · obtain ⟨vs2, h3, c1, _⟩ := cutP_some q1
        cases c1
      · cases q1
    | ret => exact ⟨.ret, s1, hh, fun ι0 base h0 w0 e0 hd ι a' w Q hst hq => wp_seq (q2 ι0 base h0 w0 e0 hd ι a' w _ hst hq), q1⟩
    | _ => cases q1
  | _ => cases hs
end

noncomputable def S106 : Spec := mkS [(29, false, F29), (35, false, F35), (36, false, F36), (76, false, F76)]
--CF cf106p0 (e t b c st se : Int) :: pieceK Try.prog S106 noL Try.f106.ntmps 0 [2, 3] (fstC (bodyOf Try.f106)) (slots0 0 [a3 e t b, a3 c st se]) []
theorem cf106p0 (e t b c st se : Int) : pieceK Try.prog S106 noL Try.f106.ntmps 0 [2, 3] (fstC (bodyOf Try.f106)) (slots0 0 [a3 e t b, a3 c st se]) [] =
    (some
       (Res.at Exit.normal
         [(2, some (Value.pointer (some (Addr.mk 0 0 none)))), (3, some (Value.pointer (some (Addr.mk 1 0 none))))]
         [some (Blk.mk true 3 [Seg.ints IntKind.i64 3 [e, t, b]]),
           some (Blk.mk true 3 [Seg.ints IntKind.i64 3 [c, st, se]])])) := by kernel_rfl
--CFEND
--CF cf106p1 (e t b c st se : Int) :: pieceK Try.prog S106 noL Try.f106.ntmps 0 [3, 5, 6] (fstC (sndC (bodyOf Try.f106))) (zipS [2, 3] [pt 0, pt 1]) [cB e t b, cB c st se]
theorem cf106p1 (e t b c st se : Int) : pieceK Try.prog S106 noL Try.f106.ntmps 0 [3, 5, 6] (fstC (sndC (bodyOf Try.f106))) (zipS [2, 3] [pt 0, pt 1]) [cB e t b, cB c st se] =
    (bif
         normB (digits t.natAbs).length (digits t.natAbs) && normB (digits b.natAbs).length (digits b.natAbs) &&
                 (digits t.natAbs).length.ble (digits t.natAbs).length &&
               (digits b.natAbs).length.ble (digits b.natAbs).length &&
             (digits t.natAbs).length.ble (OfNat.ofNat 400000) &&
           (digits b.natAbs).length.ble (OfNat.ofNat 400000) then
       bif
           normB (digits t.natAbs).length (digits t.natAbs) && normB (digits b.natAbs).length (digits b.natAbs) &&
                   (digits t.natAbs).length.ble (digits t.natAbs).length &&
                 (digits b.natAbs).length.ble (digits b.natAbs).length &&
               (digits t.natAbs).length.ble (OfNat.ofNat 400000) &&
             (digits b.natAbs).length.ble (OfNat.ofNat 400000) then
         some
           (Res.at Exit.normal
             [(3, some (Value.pointer (some (Addr.mk 0 0 none)))), (5, some (Value.pointer (some (Addr.mk 1 0 none)))),
               (6, some (Value.pointer (some (Addr.mk 3 0 none))))]
             [some (Blk.mk true 3 [Seg.ints IntKind.i64 3 [c, st, se]]),
               some
                 (Blk.mk true 2
                   [Seg.vals
                       [Value.bool
                           (decide
                             (sgn (decide (t < 0)) (numW (digits t.natAbs).length (digits t.natAbs)) -
                                 sgn (decide (b < 0)) (numW (digits b.natAbs).length (digits b.natAbs)) <
                               0)),
                         Value.slice (some (Addr.mk 2 0 none))
                           (digits
                               (sgn (decide (t < 0)) (numW (digits t.natAbs).length (digits t.natAbs)) -
                                   sgn (decide (b < 0)) (numW (digits b.natAbs).length (digits b.natAbs))).natAbs).length
                           2]]),
               some
                 (Blk.mk true 1
                   [Seg.ints IntKind.u64
                       (digits
                           (sgn (decide (t < 0)) (numW (digits t.natAbs).length (digits t.natAbs)) -
                               sgn (decide (b < 0)) (numW (digits b.natAbs).length (digits b.natAbs))).natAbs).length
                       (digits
                         (sgn (decide (t < 0)) (numW (digits t.natAbs).length (digits t.natAbs)) -
                             sgn (decide (b < 0)) (numW (digits b.natAbs).length (digits b.natAbs))).natAbs)]),
               some
                 (Blk.mk true 2
                   [Seg.vals
                       [Value.bool
                           (decide
                             (sgn (decide (t < 0)) (numW (digits t.natAbs).length (digits t.natAbs)) +
                                 sgn (decide (b < 0)) (numW (digits b.natAbs).length (digits b.natAbs)) <
                               0)),
                         Value.slice (some (Addr.mk 4 0 none))
                           (digits
                               (sgn (decide (t < 0)) (numW (digits t.natAbs).length (digits t.natAbs)) +
                                   sgn (decide (b < 0)) (numW (digits b.natAbs).length (digits b.natAbs))).natAbs).length
                           2]]),
               some
                 (Blk.mk true 1
                   [Seg.ints IntKind.u64
                       (digits
                           (sgn (decide (t < 0)) (numW (digits t.natAbs).length (digits t.natAbs)) +
                               sgn (decide (b < 0)) (numW (digits b.natAbs).length (digits b.natAbs))).natAbs).length
                       (digits
                         (sgn (decide (t < 0)) (numW (digits t.natAbs).length (digits t.natAbs)) +
                             sgn (decide (b < 0)) (numW (digits b.natAbs).length (digits b.natAbs))).natAbs)])])
       else none
     else none) := by kernel_rfl
--CFEND
--CF cf106p2 (c st se y z : Int) :: pieceK Try.prog S106 noL Try.f106.ntmps 0 [5, 6, 7, 8] (fstC (sndC (sndC (bodyOf Try.f106)))) (zipS [3, 5, 6] [pt 0, pt 1, pt 3]) [cB c st se, zC 2 y, zB y, zC 4 z, zB z]
theorem cf106p2 (c st se y z : Int) : pieceK Try.prog S106 noL Try.f106.ntmps 0 [5, 6, 7, 8] (fstC (sndC (sndC (bodyOf Try.f106)))) (zipS [3, 5, 6] [pt 0, pt 1, pt 3]) [cB c st se, zC 2 y, zB y, zC 4 z, zB z] =
    (bif
         normB (digits st.natAbs).length (digits st.natAbs) && normB (digits se.natAbs).length (digits se.natAbs) &&
                 (digits st.natAbs).length.ble (digits st.natAbs).length &&
               (digits se.natAbs).length.ble (digits se.natAbs).length &&
             (digits st.natAbs).length.ble (OfNat.ofNat 400000) &&
           (digits se.natAbs).length.ble (OfNat.ofNat 400000) then
       bif
           normB (digits st.natAbs).length (digits st.natAbs) && normB (digits se.natAbs).length (digits se.natAbs) &&
                   (digits st.natAbs).length.ble (digits st.natAbs).length &&
                 (digits se.natAbs).length.ble (digits se.natAbs).length &&
               (digits st.natAbs).length.ble (OfNat.ofNat 400000) &&
             (digits se.natAbs).length.ble (OfNat.ofNat 400000) then
         some
           (Res.at Exit.normal
             [(5, some (Value.pointer (some (Addr.mk 0 0 none)))), (6, some (Value.pointer (some (Addr.mk 2 0 none)))),
               (7, some (Value.pointer (some (Addr.mk 4 0 none)))), (8, some (Value.pointer (some (Addr.mk 6 0 none))))]
             [some
                 (Blk.mk true 2
                   [Seg.vals
                       [Value.bool (decide (y < 0)), Value.slice (some (Addr.mk 1 0 none)) (digits y.natAbs).length 2]]),
               some (Blk.mk true 1 [Seg.ints IntKind.u64 (digits y.natAbs).length (digits y.natAbs)]),
               some
                 (Blk.mk true 2
                   [Seg.vals
                       [Value.bool (decide (z < 0)), Value.slice (some (Addr.mk 3 0 none)) (digits z.natAbs).length 2]]),
               some (Blk.mk true 1 [Seg.ints IntKind.u64 (digits z.natAbs).length (digits z.natAbs)]),
               some
                 (Blk.mk true 2
                   [Seg.vals
                       [Value.bool
                           (decide
                             (sgn (decide (st < 0)) (numW (digits st.natAbs).length (digits st.natAbs)) -
                                 sgn (decide (se < 0)) (numW (digits se.natAbs).length (digits se.natAbs)) <
                               0)),
                         Value.slice (some (Addr.mk 5 0 none))
                           (digits
                               (sgn (decide (st < 0)) (numW (digits st.natAbs).length (digits st.natAbs)) -
                                   sgn (decide (se < 0)) (numW (digits se.natAbs).length (digits se.natAbs))).natAbs).length
                           2]]),
               some
                 (Blk.mk true 1
                   [Seg.ints IntKind.u64
                       (digits
                           (sgn (decide (st < 0)) (numW (digits st.natAbs).length (digits st.natAbs)) -
                               sgn (decide (se < 0)) (numW (digits se.natAbs).length (digits se.natAbs))).natAbs).length
                       (digits
                         (sgn (decide (st < 0)) (numW (digits st.natAbs).length (digits st.natAbs)) -
                             sgn (decide (se < 0)) (numW (digits se.natAbs).length (digits se.natAbs))).natAbs)]),
               some
                 (Blk.mk true 2
                   [Seg.vals
                       [Value.bool
                           (decide
                             (sgn (decide (st < 0)) (numW (digits st.natAbs).length (digits st.natAbs)) +
                                 sgn (decide (se < 0)) (numW (digits se.natAbs).length (digits se.natAbs)) <
                               0)),
                         Value.slice (some (Addr.mk 7 0 none))
                           (digits
                               (sgn (decide (st < 0)) (numW (digits st.natAbs).length (digits st.natAbs)) +
                                   sgn (decide (se < 0)) (numW (digits se.natAbs).length (digits se.natAbs))).natAbs).length
                           2]]),
               some
                 (Blk.mk true 1
                   [Seg.ints IntKind.u64
                       (digits
                           (sgn (decide (st < 0)) (numW (digits st.natAbs).length (digits st.natAbs)) +
                               sgn (decide (se < 0)) (numW (digits se.natAbs).length (digits se.natAbs))).natAbs).length
                       (digits
                         (sgn (decide (st < 0)) (numW (digits st.natAbs).length (digits st.natAbs)) +
                             sgn (decide (se < 0)) (numW (digits se.natAbs).length (digits se.natAbs))).natAbs)])])
       else none
     else none) := by kernel_rfl
--CFEND
--CF cf106p3 (y z u v : Int) :: tailK Try.prog S106 noL Try.f106 0 (sndC (sndC (sndC (bodyOf Try.f106)))) (zipS [5, 6, 7, 8] [pt 0, pt 2, pt 4, pt 6]) [zC 1 y, zB y, zC 3 z, zB z, zC 5 u, zB u, zC 7 v, zB v]
theorem cf106p3 (y z u v : Int) : tailK Try.prog S106 noL Try.f106 0 (sndC (sndC (sndC (bodyOf Try.f106)))) (zipS [5, 6, 7, 8] [pt 0, pt 2, pt 4, pt 6]) [zC 1 y, zB y, zC 3 z, zB z, zC 5 u, zB u, zC 7 v, zB v] =
    (bif
         normB (digits y.natAbs).length (digits y.natAbs) && normB (digits v.natAbs).length (digits v.natAbs) &&
                 (digits y.natAbs).length.ble (digits y.natAbs).length &&
               (digits v.natAbs).length.ble (digits v.natAbs).length &&
             chk (decide (y < 0) = true → 0 < numW (digits y.natAbs).length (digits y.natAbs)) &&
           chk (decide (v < 0) = true → 0 < numW (digits v.natAbs).length (digits v.natAbs)) then
       bif
           decide
             (cmpZ (sgn (decide (y < 0)) (numW (digits y.natAbs).length (digits y.natAbs)))
                 (sgn (decide (v < 0)) (numW (digits v.natAbs).length (digits v.natAbs))) ≤
               0) then
         bif
             normB (digits u.natAbs).length (digits u.natAbs) && normB (digits z.natAbs).length (digits z.natAbs) &&
                     (digits u.natAbs).length.ble (digits u.natAbs).length &&
                   (digits z.natAbs).length.ble (digits z.natAbs).length &&
                 chk (decide (u < 0) = true → 0 < numW (digits u.natAbs).length (digits u.natAbs)) &&
               chk (decide (z < 0) = true → 0 < numW (digits z.natAbs).length (digits z.natAbs)) then
           some
             (Res.ret
               (Value.bool
                 (decide
                   (cmpZ (sgn (decide (u < 0)) (numW (digits u.natAbs).length (digits u.natAbs)))
                       (sgn (decide (z < 0)) (numW (digits z.natAbs).length (digits z.natAbs))) ≤
                     0)))
               [])
         else none
       else some (Res.ret (Value.bool false) [])
     else none) := by kernel_rfl
--CFEND

noncomputable def S62 : Spec := mkS [(29, false, F29), (31, false, F31), (32, false, F32), (35, false, F35), (36, false, F36), (76, false, F76), (86, false, F86)]
--CF cf62p0 (r n cc ct sc st se : Int) :: pieceR Try.prog S62 noL Try.f62 0 [0, 4, 5] (fstC (bodyOf Try.f62)) (slots0 0 [w63 r, a3 n cc ct, a3 sc st se]) []
theorem cf62p0 (r n cc ct sc st se : Int) : pieceR Try.prog S62 noL Try.f62 0 [0, 4, 5] (fstC (bodyOf Try.f62)) (slots0 0 [w63 r, a3 n cc ct, a3 sc st se]) [] =
    (some
       (Res.at Exit.normal
         [(0, some (Value.int IntKind.i64 r)), (4, some (Value.pointer (some (Addr.mk 0 0 none)))),
           (5, some (Value.pointer (some (Addr.mk 1 0 none))))]
         [some (Blk.mk true 3 [Seg.ints IntKind.i64 3 [n, cc, ct]]),
           some (Blk.mk true 3 [Seg.ints IntKind.i64 3 [sc, st, se]])])) := by kernel_rfl
--CFEND
--CF cf62p1 (r n cc ct sc st se : Int) :: pieceR Try.prog S62 noL Try.f62 0 [0, 4, 5] (fstC (sndC (bodyOf Try.f62))) (zipS [0, 4, 5] [w63 r, pt 0, pt 1]) [cB n cc ct, cB sc st se]
theorem cf62p1 (r n cc ct sc st se : Int) : pieceR Try.prog S62 noL Try.f62 0 [0, 4, 5] (fstC (sndC (bodyOf Try.f62))) (zipS [0, 4, 5] [w63 r, pt 0, pt 1]) [cB n cc ct, cB sc st se] =
    (bif decide (r < 1) then some (Res.ret (Value.bool false) [])
     else
       bif decide (r > 500) then some (Res.ret (Value.bool false) [])
       else
         bif decide (n < 1) then some (Res.ret (Value.bool false) [])
         else
           some
             (Res.at Exit.normal
               [(0, some (Value.int IntKind.i64 r)), (4, some (Value.pointer (some (Addr.mk 0 0 none)))),
                 (5, some (Value.pointer (some (Addr.mk 1 0 none))))]
               [some (Blk.mk true 3 [Seg.ints IntKind.i64 3 [n, cc, ct]]),
                 some (Blk.mk true 3 [Seg.ints IntKind.i64 3 [sc, st, se]])])) := by kernel_rfl
--CFEND
--CF cf62p2 (r n cc ct sc st se : Int) :: pieceR Try.prog S62 noL Try.f62 0 [0, 4, 5, 7] (fstC (sndC (sndC (bodyOf Try.f62)))) (zipS [0, 4, 5] [w63 r, pt 0, pt 1]) [cB n cc ct, cB sc st se]
theorem cf62p2 (r n cc ct sc st se : Int) : pieceR Try.prog S62 noL Try.f62 0 [0, 4, 5, 7] (fstC (sndC (sndC (bodyOf Try.f62)))) (zipS [0, 4, 5] [w63 r, pt 0, pt 1]) [cB n cc ct, cB sc st se] =
    (bif
         normB (digits sc.natAbs).length (digits sc.natAbs) && normB (digits cc.natAbs).length (digits cc.natAbs) &&
                 (digits sc.natAbs).length.ble (digits sc.natAbs).length &&
               (digits cc.natAbs).length.ble (digits cc.natAbs).length &&
             (digits sc.natAbs).length.ble (OfNat.ofNat 400000) &&
           (digits cc.natAbs).length.ble (OfNat.ofNat 400000) then
       some
         (Res.at Exit.normal
           [(0, some (Value.int IntKind.i64 r)), (4, some (Value.pointer (some (Addr.mk 0 0 none)))),
             (5, some (Value.pointer (some (Addr.mk 1 0 none)))), (7, some (Value.pointer (some (Addr.mk 2 0 none))))]
           [some (Blk.mk true 3 [Seg.ints IntKind.i64 3 [n, cc, ct]]),
             some (Blk.mk true 3 [Seg.ints IntKind.i64 3 [sc, st, se]]),
             some
               (Blk.mk true 2
                 [Seg.vals
                     [Value.bool
                         (decide
                           (sgn (decide (sc < 0)) (numW (digits sc.natAbs).length (digits sc.natAbs)) -
                               sgn (decide (cc < 0)) (numW (digits cc.natAbs).length (digits cc.natAbs)) <
                             0)),
                       Value.slice (some (Addr.mk 3 0 none))
                         (digits
                             (sgn (decide (sc < 0)) (numW (digits sc.natAbs).length (digits sc.natAbs)) -
                                 sgn (decide (cc < 0)) (numW (digits cc.natAbs).length (digits cc.natAbs))).natAbs).length
                         2]]),
             some
               (Blk.mk true 1
                 [Seg.ints IntKind.u64
                     (digits
                         (sgn (decide (sc < 0)) (numW (digits sc.natAbs).length (digits sc.natAbs)) -
                             sgn (decide (cc < 0)) (numW (digits cc.natAbs).length (digits cc.natAbs))).natAbs).length
                     (digits
                       (sgn (decide (sc < 0)) (numW (digits sc.natAbs).length (digits sc.natAbs)) -
                           sgn (decide (cc < 0)) (numW (digits cc.natAbs).length (digits cc.natAbs))).natAbs)])])
     else none) := by kernel_rfl
--CFEND
--CF cf62p3 (r n cc ct sc st se x : Int) :: pieceR Try.prog S62 noL Try.f62 0 [0, 4, 5, 7] (fstC (sndC (sndC (sndC (bodyOf Try.f62))))) (zipS [0, 4, 5, 7] [w63 r, pt 0, pt 1, pt 2]) [cB n cc ct, cB sc st se, zC 3 x, zB x]
theorem cf62p3 (r n cc ct sc st se x : Int) : pieceR Try.prog S62 noL Try.f62 0 [0, 4, 5, 7] (fstC (sndC (sndC (sndC (bodyOf Try.f62))))) (zipS [0, 4, 5, 7] [w63 r, pt 0, pt 1, pt 2]) [cB n cc ct, cB sc st se, zC 3 x, zB x] =
    (bif
         normB (digits x.natAbs).length (digits x.natAbs) && normB 1 (digits 500000000) &&
                 (digits x.natAbs).length.ble (digits x.natAbs).length &&
               true &&
             chk (decide (x < 0) = true → 0 < numW (digits x.natAbs).length (digits x.natAbs)) &&
           chk
             (decide (500000000 < 0) = true →
               0 < numW (digits (Int.natAbs 500000000)).length (digits (Int.natAbs 500000000))) then
       bif decide (cmpZ (sgn (decide (x < 0)) (numW (digits x.natAbs).length (digits x.natAbs))) 500000000 < 0) then
         some (Res.ret (Value.bool false) [])
       else
         bif
             normB (digits x.natAbs).length (digits x.natAbs) && normB 1 (digits 1500000000) &&
                     (digits x.natAbs).length.ble (digits x.natAbs).length &&
                   true &&
                 chk (decide (x < 0) = true → 0 < numW (digits x.natAbs).length (digits x.natAbs)) &&
               chk
                 (decide (1500000000 < 0) = true →
                   0 < numW (digits (Int.natAbs 1500000000)).length (digits (Int.natAbs 1500000000))) then
           bif decide (cmpZ (sgn (decide (x < 0)) (numW (digits x.natAbs).length (digits x.natAbs))) 1500000000 > 0) then
             some (Res.ret (Value.bool false) [])
           else
             some
               (Res.at Exit.normal
                 [(0, some (Value.int IntKind.i64 r)), (4, some (Value.pointer (some (Addr.mk 0 0 none)))),
                   (5, some (Value.pointer (some (Addr.mk 1 0 none)))), (7, some (Value.pointer (some (Addr.mk 2 0 none))))]
                 [some (Blk.mk true 3 [Seg.ints IntKind.i64 3 [n, cc, ct]]),
                   some (Blk.mk true 3 [Seg.ints IntKind.i64 3 [sc, st, se]]),
                   some
                     (Blk.mk true 2
                       [Seg.vals
                           [Value.bool (decide (x < 0)), Value.slice (some (Addr.mk 3 0 none)) (digits x.natAbs).length 2]]),
                   some (Blk.mk true 1 [Seg.ints IntKind.u64 (digits x.natAbs).length (digits x.natAbs)])])
         else none
     else none) := by kernel_rfl
--CFEND
--CF cf62p4 (r n cc ct sc st se x : Int) :: pieceR Try.prog S62 noL Try.f62 0 [0, 5, 7, 8] (fstC (sndC (sndC (sndC (sndC (bodyOf Try.f62)))))) (zipS [0, 4, 5, 7] [w63 r, pt 0, pt 1, pt 2]) [cB n cc ct, cB sc st se, zC 3 x, zB x]
theorem cf62p4 (r n cc ct sc st se x : Int) : pieceR Try.prog S62 noL Try.f62 0 [0, 5, 7, 8] (fstC (sndC (sndC (sndC (sndC (bodyOf Try.f62)))))) (zipS [0, 4, 5, 7] [w63 r, pt 0, pt 1, pt 2]) [cB n cc ct, cB sc st se, zC 3 x, zB x] =
    (bif
         normB (digits st.natAbs).length (digits st.natAbs) && normB (digits ct.natAbs).length (digits ct.natAbs) &&
                 (digits st.natAbs).length.ble (digits st.natAbs).length &&
               (digits ct.natAbs).length.ble (digits ct.natAbs).length &&
             (digits st.natAbs).length.ble (OfNat.ofNat 400000) &&
           (digits ct.natAbs).length.ble (OfNat.ofNat 400000) then
       bif
           normB
               (digits
                   (sgn (decide (st < 0)) (numW (digits st.natAbs).length (digits st.natAbs)) -
                       sgn (decide (ct < 0)) (numW (digits ct.natAbs).length (digits ct.natAbs))).natAbs).length
               (digits
                 (sgn (decide (st < 0)) (numW (digits st.natAbs).length (digits st.natAbs)) -
                     sgn (decide (ct < 0)) (numW (digits ct.natAbs).length (digits ct.natAbs))).natAbs) &&
             (digits
                     (sgn (decide (st < 0)) (numW (digits st.natAbs).length (digits st.natAbs)) -
                         sgn (decide (ct < 0)) (numW (digits ct.natAbs).length (digits ct.natAbs))).natAbs).length.ble
               (digits
                   (sgn (decide (st < 0)) (numW (digits st.natAbs).length (digits st.natAbs)) -
                       sgn (decide (ct < 0)) (numW (digits ct.natAbs).length (digits ct.natAbs))).natAbs).length then
         bif
             normB
                         (digits
                             (hold
                                 (sgn
                                   (decide
                                     (sgn (decide (st < 0)) (numW (digits st.natAbs).length (digits st.natAbs)) -
                                         sgn (decide (ct < 0)) (numW (digits ct.natAbs).length (digits ct.natAbs)) <
                                       0))
                                   (numW
                                     (digits
                                         (sgn (decide (st < 0)) (numW (digits st.natAbs).length (digits st.natAbs)) -
                                             sgn (decide (ct < 0))
                                               (numW (digits ct.natAbs).length (digits ct.natAbs))).natAbs).length
                                     (digits
                                       (sgn (decide (st < 0)) (numW (digits st.natAbs).length (digits st.natAbs)) -
                                           sgn (decide (ct < 0))
                                             (numW (digits ct.natAbs).length (digits ct.natAbs))).natAbs)))).natAbs).length
                         (digits
                           (hold
                               (sgn
                                 (decide
                                   (sgn (decide (st < 0)) (numW (digits st.natAbs).length (digits st.natAbs)) -
                                       sgn (decide (ct < 0)) (numW (digits ct.natAbs).length (digits ct.natAbs)) <
                                     0))
                                 (numW
                                   (digits
                                       (sgn (decide (st < 0)) (numW (digits st.natAbs).length (digits st.natAbs)) -
                                           sgn (decide (ct < 0))
                                             (numW (digits ct.natAbs).length (digits ct.natAbs))).natAbs).length
                                   (digits
                                     (sgn (decide (st < 0)) (numW (digits st.natAbs).length (digits st.natAbs)) -
                                         sgn (decide (ct < 0))
                                           (numW (digits ct.natAbs).length (digits ct.natAbs))).natAbs)))).natAbs) &&
                       normB (digits x.natAbs).length (digits x.natAbs) &&
                     (digits
                             (hold
                                 (sgn
                                   (decide
                                     (sgn (decide (st < 0)) (numW (digits st.natAbs).length (digits st.natAbs)) -
                                         sgn (decide (ct < 0)) (numW (digits ct.natAbs).length (digits ct.natAbs)) <
                                       0))
                                   (numW
                                     (digits
                                         (sgn (decide (st < 0)) (numW (digits st.natAbs).length (digits st.natAbs)) -
                                             sgn (decide (ct < 0))
                                               (numW (digits ct.natAbs).length (digits ct.natAbs))).natAbs).length
                                     (digits
                                       (sgn (decide (st < 0)) (numW (digits st.natAbs).length (digits st.natAbs)) -
                                           sgn (decide (ct < 0))
                                             (numW (digits ct.natAbs).length
                                               (digits ct.natAbs))).natAbs)))).natAbs).length.ble
                       (digits
                           (hold
                               (sgn
                                 (decide
                                   (sgn (decide (st < 0)) (numW (digits st.natAbs).length (digits st.natAbs)) -
                                       sgn (decide (ct < 0)) (numW (digits ct.natAbs).length (digits ct.natAbs)) <
                                     0))
                                 (numW
                                   (digits
                                       (sgn (decide (st < 0)) (numW (digits st.natAbs).length (digits st.natAbs)) -
                                           sgn (decide (ct < 0))
                                             (numW (digits ct.natAbs).length (digits ct.natAbs))).natAbs).length
                                   (digits
                                     (sgn (decide (st < 0)) (numW (digits st.natAbs).length (digits st.natAbs)) -
                                         sgn (decide (ct < 0))
                                           (numW (digits ct.natAbs).length (digits ct.natAbs))).natAbs)))).natAbs).length &&
                   (digits x.natAbs).length.ble (digits x.natAbs).length &&
                 (digits
                         (hold
                             (sgn
                               (decide
                                 (sgn (decide (st < 0)) (numW (digits st.natAbs).length (digits st.natAbs)) -
                                     sgn (decide (ct < 0)) (numW (digits ct.natAbs).length (digits ct.natAbs)) <
                                   0))
                               (numW
                                 (digits
                                     (sgn (decide (st < 0)) (numW (digits st.natAbs).length (digits st.natAbs)) -
                                         sgn (decide (ct < 0))
                                           (numW (digits ct.natAbs).length (digits ct.natAbs))).natAbs).length
                                 (digits
                                   (sgn (decide (st < 0)) (numW (digits st.natAbs).length (digits st.natAbs)) -
                                       sgn (decide (ct < 0))
                                         (numW (digits ct.natAbs).length (digits ct.natAbs))).natAbs)))).natAbs).length.ble
                   (OfNat.ofNat 400000) &&
               (digits x.natAbs).length.ble (OfNat.ofNat 400000) then
           some
             (Res.at Exit.normal
               [(0, some (Value.int IntKind.i64 r)), (5, some (Value.pointer (some (Addr.mk 0 0 none)))),
                 (7, some (Value.pointer (some (Addr.mk 1 0 none)))), (8, some (Value.pointer (some (Addr.mk 3 0 none))))]
               [some (Blk.mk true 3 [Seg.ints IntKind.i64 3 [sc, st, se]]),
                 some
                   (Blk.mk true 2
                     [Seg.vals
                         [Value.bool (decide (x < 0)), Value.slice (some (Addr.mk 2 0 none)) (digits x.natAbs).length 2]]),
                 some (Blk.mk true 1 [Seg.ints IntKind.u64 (digits x.natAbs).length (digits x.natAbs)]),
                 some
                   (Blk.mk true 2
                     [Seg.vals
                         [Value.bool
                             (decide
                               (sgn
                                     (decide
                                       (hold
                                           (sgn
                                             (decide
                                               (sgn (decide (st < 0)) (numW (digits st.natAbs).length (digits st.natAbs)) -
                                                   sgn (decide (ct < 0))
                                                     (numW (digits ct.natAbs).length (digits ct.natAbs)) <
                                                 0))
                                             (numW
                                               (digits
                                                   (sgn (decide (st < 0))
                                                         (numW (digits st.natAbs).length (digits st.natAbs)) -
                                                       sgn (decide (ct < 0))
                                                         (numW (digits ct.natAbs).length (digits ct.natAbs))).natAbs).length
                                               (digits
                                                 (sgn (decide (st < 0)) (numW (digits st.natAbs).length (digits st.natAbs)) -
                                                     sgn (decide (ct < 0))
                                                       (numW (digits ct.natAbs).length (digits ct.natAbs))).natAbs))) <
                                         0))
                                     (numW
                                       (digits
                                           (hold
                                               (sgn
                                                 (decide
                                                   (sgn (decide (st < 0))
                                                         (numW (digits st.natAbs).length (digits st.natAbs)) -
                                                       sgn (decide (ct < 0))
                                                         (numW (digits ct.natAbs).length (digits ct.natAbs)) <
                                                     0))
                                                 (numW
                                                   (digits
                                                       (sgn (decide (st < 0))
                                                             (numW (digits st.natAbs).length (digits st.natAbs)) -
                                                           sgn (decide (ct < 0))
                                                             (numW (digits ct.natAbs).length
                                                               (digits ct.natAbs))).natAbs).length
                                                   (digits
                                                     (sgn (decide (st < 0))
                                                           (numW (digits st.natAbs).length (digits st.natAbs)) -
                                                         sgn (decide (ct < 0))
                                                           (numW (digits ct.natAbs).length
                                                             (digits ct.natAbs))).natAbs)))).natAbs).length
                                       (digits
                                         (hold
                                             (sgn
                                               (decide
                                                 (sgn (decide (st < 0)) (numW (digits st.natAbs).length (digits st.natAbs)) -
                                                     sgn (decide (ct < 0))
                                                       (numW (digits ct.natAbs).length (digits ct.natAbs)) <
                                                   0))
                                               (numW
                                                 (digits
                                                     (sgn (decide (st < 0))
                                                           (numW (digits st.natAbs).length (digits st.natAbs)) -
                                                         sgn (decide (ct < 0))
                                                           (numW (digits ct.natAbs).length
                                                             (digits ct.natAbs))).natAbs).length
                                                 (digits
                                                   (sgn (decide (st < 0))
                                                         (numW (digits st.natAbs).length (digits st.natAbs)) -
                                                       sgn (decide (ct < 0))
                                                         (numW (digits ct.natAbs).length
                                                           (digits ct.natAbs))).natAbs)))).natAbs)) -
                                   sgn (decide (x < 0)) (numW (digits x.natAbs).length (digits x.natAbs)) <
                                 0)),
                           Value.slice (some (Addr.mk 4 0 none))
                             (digits
                                 (sgn
                                       (decide
                                         (hold
                                             (sgn
                                               (decide
                                                 (sgn (decide (st < 0)) (numW (digits st.natAbs).length (digits st.natAbs)) -
                                                     sgn (decide (ct < 0))
                                                       (numW (digits ct.natAbs).length (digits ct.natAbs)) <
                                                   0))
                                               (numW
                                                 (digits
                                                     (sgn (decide (st < 0))
                                                           (numW (digits st.natAbs).length (digits st.natAbs)) -
                                                         sgn (decide (ct < 0))
                                                           (numW (digits ct.natAbs).length
                                                             (digits ct.natAbs))).natAbs).length
                                                 (digits
                                                   (sgn (decide (st < 0))
                                                         (numW (digits st.natAbs).length (digits st.natAbs)) -
                                                       sgn (decide (ct < 0))
                                                         (numW (digits ct.natAbs).length (digits ct.natAbs))).natAbs))) <
                                           0))
                                       (numW
                                         (digits
                                             (hold
                                                 (sgn
                                                   (decide
                                                     (sgn (decide (st < 0))
                                                           (numW (digits st.natAbs).length (digits st.natAbs)) -
                                                         sgn (decide (ct < 0))
                                                           (numW (digits ct.natAbs).length (digits ct.natAbs)) <
                                                       0))
                                                   (numW
                                                     (digits
                                                         (sgn (decide (st < 0))
                                                               (numW (digits st.natAbs).length (digits st.natAbs)) -
                                                             sgn (decide (ct < 0))
                                                               (numW (digits ct.natAbs).length
                                                                 (digits ct.natAbs))).natAbs).length
                                                     (digits
                                                       (sgn (decide (st < 0))
                                                             (numW (digits st.natAbs).length (digits st.natAbs)) -
                                                           sgn (decide (ct < 0))
                                                             (numW (digits ct.natAbs).length
                                                               (digits ct.natAbs))).natAbs)))).natAbs).length
                                         (digits
                                           (hold
                                               (sgn
                                                 (decide
                                                   (sgn (decide (st < 0))
                                                         (numW (digits st.natAbs).length (digits st.natAbs)) -
                                                       sgn (decide (ct < 0))
                                                         (numW (digits ct.natAbs).length (digits ct.natAbs)) <
                                                     0))
                                                 (numW
                                                   (digits
                                                       (sgn (decide (st < 0))
                                                             (numW (digits st.natAbs).length (digits st.natAbs)) -
                                                           sgn (decide (ct < 0))
                                                             (numW (digits ct.natAbs).length
                                                               (digits ct.natAbs))).natAbs).length
                                                   (digits
                                                     (sgn (decide (st < 0))
                                                           (numW (digits st.natAbs).length (digits st.natAbs)) -
                                                         sgn (decide (ct < 0))
                                                           (numW (digits ct.natAbs).length
                                                             (digits ct.natAbs))).natAbs)))).natAbs)) -
                                     sgn (decide (x < 0)) (numW (digits x.natAbs).length (digits x.natAbs))).natAbs).length
                             2]]),
                 some
                   (Blk.mk true 1
                     [Seg.ints IntKind.u64
                         (digits
                             (sgn
                                   (decide
                                     (hold
                                         (sgn
                                           (decide
                                             (sgn (decide (st < 0)) (numW (digits st.natAbs).length (digits st.natAbs)) -
                                                 sgn (decide (ct < 0)) (numW (digits ct.natAbs).length (digits ct.natAbs)) <
                                               0))
                                           (numW
                                             (digits
                                                 (sgn (decide (st < 0)) (numW (digits st.natAbs).length (digits st.natAbs)) -
                                                     sgn (decide (ct < 0))
                                                       (numW (digits ct.natAbs).length (digits ct.natAbs))).natAbs).length
                                             (digits
                                               (sgn (decide (st < 0)) (numW (digits st.natAbs).length (digits st.natAbs)) -
                                                   sgn (decide (ct < 0))
                                                     (numW (digits ct.natAbs).length (digits ct.natAbs))).natAbs))) <
                                       0))
                                   (numW
                                     (digits
                                         (hold
                                             (sgn
                                               (decide
                                                 (sgn (decide (st < 0)) (numW (digits st.natAbs).length (digits st.natAbs)) -
                                                     sgn (decide (ct < 0))
                                                       (numW (digits ct.natAbs).length (digits ct.natAbs)) <
                                                   0))
                                               (numW
                                                 (digits
                                                     (sgn (decide (st < 0))
                                                           (numW (digits st.natAbs).length (digits st.natAbs)) -
                                                         sgn (decide (ct < 0))
                                                           (numW (digits ct.natAbs).length
                                                             (digits ct.natAbs))).natAbs).length
                                                 (digits
                                                   (sgn (decide (st < 0))
                                                         (numW (digits st.natAbs).length (digits st.natAbs)) -
                                                       sgn (decide (ct < 0))
                                                         (numW (digits ct.natAbs).length
                                                           (digits ct.natAbs))).natAbs)))).natAbs).length
                                     (digits
                                       (hold
                                           (sgn
                                             (decide
                                               (sgn (decide (st < 0)) (numW (digits st.natAbs).length (digits st.natAbs)) -
                                                   sgn (decide (ct < 0))
                                                     (numW (digits ct.natAbs).length (digits ct.natAbs)) <
                                                 0))
                                             (numW
                                               (digits
                                                   (sgn (decide (st < 0))
                                                         (numW (digits st.natAbs).length (digits st.natAbs)) -
                                                       sgn (decide (ct < 0))
                                                         (numW (digits ct.natAbs).length (digits ct.natAbs))).natAbs).length
                                               (digits
                                                 (sgn (decide (st < 0)) (numW (digits st.natAbs).length (digits st.natAbs)) -
                                                     sgn (decide (ct < 0))
                                                       (numW (digits ct.natAbs).length
                                                         (digits ct.natAbs))).natAbs)))).natAbs)) -
                                 sgn (decide (x < 0)) (numW (digits x.natAbs).length (digits x.natAbs))).natAbs).length
                         (digits
                           (sgn
                                 (decide
                                   (hold
                                       (sgn
                                         (decide
                                           (sgn (decide (st < 0)) (numW (digits st.natAbs).length (digits st.natAbs)) -
                                               sgn (decide (ct < 0)) (numW (digits ct.natAbs).length (digits ct.natAbs)) <
                                             0))
                                         (numW
                                           (digits
                                               (sgn (decide (st < 0)) (numW (digits st.natAbs).length (digits st.natAbs)) -
                                                   sgn (decide (ct < 0))
                                                     (numW (digits ct.natAbs).length (digits ct.natAbs))).natAbs).length
                                           (digits
                                             (sgn (decide (st < 0)) (numW (digits st.natAbs).length (digits st.natAbs)) -
                                                 sgn (decide (ct < 0))
                                                   (numW (digits ct.natAbs).length (digits ct.natAbs))).natAbs))) <
                                     0))
                                 (numW
                                   (digits
                                       (hold
                                           (sgn
                                             (decide
                                               (sgn (decide (st < 0)) (numW (digits st.natAbs).length (digits st.natAbs)) -
                                                   sgn (decide (ct < 0))
                                                     (numW (digits ct.natAbs).length (digits ct.natAbs)) <
                                                 0))
                                             (numW
                                               (digits
                                                   (sgn (decide (st < 0))
                                                         (numW (digits st.natAbs).length (digits st.natAbs)) -
                                                       sgn (decide (ct < 0))
                                                         (numW (digits ct.natAbs).length (digits ct.natAbs))).natAbs).length
                                               (digits
                                                 (sgn (decide (st < 0)) (numW (digits st.natAbs).length (digits st.natAbs)) -
                                                     sgn (decide (ct < 0))
                                                       (numW (digits ct.natAbs).length
                                                         (digits ct.natAbs))).natAbs)))).natAbs).length
                                   (digits
                                     (hold
                                         (sgn
                                           (decide
                                             (sgn (decide (st < 0)) (numW (digits st.natAbs).length (digits st.natAbs)) -
                                                 sgn (decide (ct < 0)) (numW (digits ct.natAbs).length (digits ct.natAbs)) <
                                               0))
                                           (numW
                                             (digits
                                                 (sgn (decide (st < 0)) (numW (digits st.natAbs).length (digits st.natAbs)) -
                                                     sgn (decide (ct < 0))
                                                       (numW (digits ct.natAbs).length (digits ct.natAbs))).natAbs).length
                                             (digits
                                               (sgn (decide (st < 0)) (numW (digits st.natAbs).length (digits st.natAbs)) -
                                                   sgn (decide (ct < 0))
                                                     (numW (digits ct.natAbs).length
                                                       (digits ct.natAbs))).natAbs)))).natAbs)) -
                               sgn (decide (x < 0)) (numW (digits x.natAbs).length (digits x.natAbs))).natAbs)])])
         else none
       else none
     else none) := by kernel_rfl
--CFEND
--CF cf62p5 (r sc st se x y : Int) :: pieceR Try.prog S62 noL Try.f62 0 [0, 5, 7, 8] (fstC (sndC (sndC (sndC (sndC (sndC (bodyOf Try.f62))))))) (zipS [0, 5, 7, 8] [w63 r, pt 0, pt 1, pt 3]) [cB sc st se, zC 2 x, zB x, zC 4 y, zB y]
theorem cf62p5 (r sc st se x y : Int) : pieceR Try.prog S62 noL Try.f62 0 [0, 5, 7, 8] (fstC (sndC (sndC (sndC (sndC (sndC (bodyOf Try.f62))))))) (zipS [0, 5, 7, 8] [w63 r, pt 0, pt 1, pt 3]) [cB sc st se, zC 2 x, zB x, zC 4 y, zB y] =
    (some
       (Res.at Exit.normal
         [(0, some (Value.int IntKind.i64 r)), (5, some (Value.pointer (some (Addr.mk 0 0 none)))),
           (7, some (Value.pointer (some (Addr.mk 1 0 none)))), (8, some (Value.pointer (some (Addr.mk 3 0 none))))]
         [some (Blk.mk true 3 [Seg.ints IntKind.i64 3 [sc, st, se]]),
           some
             (Blk.mk true 2
               [Seg.vals [Value.bool (decide (x < 0)), Value.slice (some (Addr.mk 2 0 none)) (digits x.natAbs).length 2]]),
           some (Blk.mk true 1 [Seg.ints IntKind.u64 (digits x.natAbs).length (digits x.natAbs)]),
           some
             (Blk.mk true 2 [Seg.vals [Value.bool false, Value.slice (some (Addr.mk 4 0 none)) (digits y.natAbs).length 2]]),
           some (Blk.mk true 1 [Seg.ints IntKind.u64 (digits y.natAbs).length (digits y.natAbs)])])) := by kernel_rfl
--CFEND
abbrev zA (id : Nat) (z : Int) : Option Blk := some ⟨true, 2, [.vals [.bool false, .slice (some ⟨id, 0, none⟩) (digits z.natAbs).length 2]]⟩
--CF cf62p6 (r sc st se x y : Int) :: pieceR Try.prog S62 noL Try.f62 0 [5, 8, 9] (fstC (sndC (sndC (sndC (sndC (sndC (sndC (bodyOf Try.f62)))))))) (zipS [0, 5, 7, 8] [w63 r, pt 0, pt 1, pt 3]) [cB sc st se, zC 2 x, zB x, zA 4 y, zB y]
theorem cf62p6 (r sc st se x y : Int) : pieceR Try.prog S62 noL Try.f62 0 [5, 8, 9] (fstC (sndC (sndC (sndC (sndC (sndC (sndC (bodyOf Try.f62)))))))) (zipS [0, 5, 7, 8] [w63 r, pt 0, pt 1, pt 3]) [cB sc st se, zC 2 x, zB x, zA 4 y, zB y] =
    (bif
         normB (digits x.natAbs).length (digits x.natAbs) &&
                   normB (digits (IntKind.i64.wrap (IntKind.i64.wrap (2 * r) + 1)).natAbs).length
                     (digits (IntKind.i64.wrap (IntKind.i64.wrap (2 * r) + 1)).natAbs) &&
                 (digits x.natAbs).length.ble (digits x.natAbs).length &&
               (digits (IntKind.i64.wrap (IntKind.i64.wrap (2 * r) + 1)).natAbs).length.ble
                 (digits (IntKind.i64.wrap (IntKind.i64.wrap (2 * r) + 1)).natAbs).length &&
             (digits x.natAbs).length.ble (OfNat.ofNat 400000) &&
           (digits (IntKind.i64.wrap (IntKind.i64.wrap (2 * r) + 1)).natAbs).length.ble (OfNat.ofNat 400000) then
       bif
           normB
                           (digits
                               (sgn (decide (x < 0)) (numW (digits x.natAbs).length (digits x.natAbs)) *
                                   sgn (decide (IntKind.i64.wrap (IntKind.i64.wrap (2 * r) + 1) < 0))
                                     (numW (digits (IntKind.i64.wrap (IntKind.i64.wrap (2 * r) + 1)).natAbs).length
                                       (digits (IntKind.i64.wrap (IntKind.i64.wrap (2 * r) + 1)).natAbs))).natAbs).length
                           (digits
                             (sgn (decide (x < 0)) (numW (digits x.natAbs).length (digits x.natAbs)) *
                                 sgn (decide (IntKind.i64.wrap (IntKind.i64.wrap (2 * r) + 1) < 0))
                                   (numW (digits (IntKind.i64.wrap (IntKind.i64.wrap (2 * r) + 1)).natAbs).length
                                     (digits (IntKind.i64.wrap (IntKind.i64.wrap (2 * r) + 1)).natAbs))).natAbs) &&
                         normB 1 (digits 1000000) &&
                       (digits
                               (sgn (decide (x < 0)) (numW (digits x.natAbs).length (digits x.natAbs)) *
                                   sgn (decide (IntKind.i64.wrap (IntKind.i64.wrap (2 * r) + 1) < 0))
                                     (numW (digits (IntKind.i64.wrap (IntKind.i64.wrap (2 * r) + 1)).natAbs).length
                                       (digits (IntKind.i64.wrap (IntKind.i64.wrap (2 * r) + 1)).natAbs))).natAbs).length.ble
                         (digits
                             (sgn (decide (x < 0)) (numW (digits x.natAbs).length (digits x.natAbs)) *
                                 sgn (decide (IntKind.i64.wrap (IntKind.i64.wrap (2 * r) + 1) < 0))
                                   (numW (digits (IntKind.i64.wrap (IntKind.i64.wrap (2 * r) + 1)).natAbs).length
                                     (digits (IntKind.i64.wrap (IntKind.i64.wrap (2 * r) + 1)).natAbs))).natAbs).length &&
                     true &&
                   (digits
                           (sgn (decide (x < 0)) (numW (digits x.natAbs).length (digits x.natAbs)) *
                               sgn (decide (IntKind.i64.wrap (IntKind.i64.wrap (2 * r) + 1) < 0))
                                 (numW (digits (IntKind.i64.wrap (IntKind.i64.wrap (2 * r) + 1)).natAbs).length
                                   (digits (IntKind.i64.wrap (IntKind.i64.wrap (2 * r) + 1)).natAbs))).natAbs).length.ble
                     (OfNat.ofNat 399999) &&
                 true &&
               true &&
             true then
         some
           (Res.at Exit.normal
             [(5, some (Value.pointer (some (Addr.mk 0 0 none)))), (8, some (Value.pointer (some (Addr.mk 1 0 none)))),
               (9, some (Value.pointer (some (Addr.mk 3 0 none))))]
             [some (Blk.mk true 3 [Seg.ints IntKind.i64 3 [sc, st, se]]),
               some
                 (Blk.mk true 2
                   [Seg.vals [Value.bool false, Value.slice (some (Addr.mk 2 0 none)) (digits y.natAbs).length 2]]),
               some (Blk.mk true 1 [Seg.ints IntKind.u64 (digits y.natAbs).length (digits y.natAbs)]),
               some
                 (Blk.mk true 2
                   [Seg.vals
                       [Value.bool
                           (decide
                             (-(-sgn
                                       (decide
                                         (sgn (decide (x < 0)) (numW (digits x.natAbs).length (digits x.natAbs)) *
                                             sgn (decide (IntKind.i64.wrap (IntKind.i64.wrap (2 * r) + 1) < 0))
                                               (numW (digits (IntKind.i64.wrap (IntKind.i64.wrap (2 * r) + 1)).natAbs).length
                                                 (digits (IntKind.i64.wrap (IntKind.i64.wrap (2 * r) + 1)).natAbs)) <
                                           0))
                                       (numW
                                         (digits
                                             (sgn (decide (x < 0)) (numW (digits x.natAbs).length (digits x.natAbs)) *
                                                 sgn (decide (IntKind.i64.wrap (IntKind.i64.wrap (2 * r) + 1) < 0))
                                                   (numW
                                                     (digits (IntKind.i64.wrap (IntKind.i64.wrap (2 * r) + 1)).natAbs).length
                                                     (digits
                                                       (IntKind.i64.wrap
                                                           (IntKind.i64.wrap (2 * r) + 1)).natAbs))).natAbs).length
                                         (digits
                                           (sgn (decide (x < 0)) (numW (digits x.natAbs).length (digits x.natAbs)) *
                                               sgn (decide (IntKind.i64.wrap (IntKind.i64.wrap (2 * r) + 1) < 0))
                                                 (numW
                                                   (digits (IntKind.i64.wrap (IntKind.i64.wrap (2 * r) + 1)).natAbs).length
                                                   (digits
                                                     (IntKind.i64.wrap (IntKind.i64.wrap (2 * r) + 1)).natAbs))).natAbs)) /
                                   1000000) <
                               0)),
                         Value.slice (some (Addr.mk 4 0 none))
                           (digits
                               (-(-sgn
                                         (decide
                                           (sgn (decide (x < 0)) (numW (digits x.natAbs).length (digits x.natAbs)) *
                                               sgn (decide (IntKind.i64.wrap (IntKind.i64.wrap (2 * r) + 1) < 0))
                                                 (numW
                                                   (digits (IntKind.i64.wrap (IntKind.i64.wrap (2 * r) + 1)).natAbs).length
                                                   (digits (IntKind.i64.wrap (IntKind.i64.wrap (2 * r) + 1)).natAbs)) <
                                             0))
                                         (numW
                                           (digits
                                               (sgn (decide (x < 0)) (numW (digits x.natAbs).length (digits x.natAbs)) *
                                                   sgn (decide (IntKind.i64.wrap (IntKind.i64.wrap (2 * r) + 1) < 0))
                                                     (numW
                                                       (digits
                                                           (IntKind.i64.wrap (IntKind.i64.wrap (2 * r) + 1)).natAbs).length
                                                       (digits
                                                         (IntKind.i64.wrap
                                                             (IntKind.i64.wrap (2 * r) + 1)).natAbs))).natAbs).length
                                           (digits
                                             (sgn (decide (x < 0)) (numW (digits x.natAbs).length (digits x.natAbs)) *
                                                 sgn (decide (IntKind.i64.wrap (IntKind.i64.wrap (2 * r) + 1) < 0))
                                                   (numW
                                                     (digits (IntKind.i64.wrap (IntKind.i64.wrap (2 * r) + 1)).natAbs).length
                                                     (digits
                                                       (IntKind.i64.wrap (IntKind.i64.wrap (2 * r) + 1)).natAbs))).natAbs)) /
                                     1000000)).natAbs).length
                           2]]),
               some
                 (Blk.mk true 1
                   [Seg.ints IntKind.u64
                       (digits
                           (-(-sgn
                                     (decide
                                       (sgn (decide (x < 0)) (numW (digits x.natAbs).length (digits x.natAbs)) *
                                           sgn (decide (IntKind.i64.wrap (IntKind.i64.wrap (2 * r) + 1) < 0))
                                             (numW (digits (IntKind.i64.wrap (IntKind.i64.wrap (2 * r) + 1)).natAbs).length
                                               (digits (IntKind.i64.wrap (IntKind.i64.wrap (2 * r) + 1)).natAbs)) <
                                         0))
                                     (numW
                                       (digits
                                           (sgn (decide (x < 0)) (numW (digits x.natAbs).length (digits x.natAbs)) *
                                               sgn (decide (IntKind.i64.wrap (IntKind.i64.wrap (2 * r) + 1) < 0))
                                                 (numW
                                                   (digits (IntKind.i64.wrap (IntKind.i64.wrap (2 * r) + 1)).natAbs).length
                                                   (digits
                                                     (IntKind.i64.wrap
                                                         (IntKind.i64.wrap (2 * r) + 1)).natAbs))).natAbs).length
                                       (digits
                                         (sgn (decide (x < 0)) (numW (digits x.natAbs).length (digits x.natAbs)) *
                                             sgn (decide (IntKind.i64.wrap (IntKind.i64.wrap (2 * r) + 1) < 0))
                                               (numW (digits (IntKind.i64.wrap (IntKind.i64.wrap (2 * r) + 1)).natAbs).length
                                                 (digits
                                                   (IntKind.i64.wrap (IntKind.i64.wrap (2 * r) + 1)).natAbs))).natAbs)) /
                                 1000000)).natAbs).length
                       (digits
                         (-(-sgn
                                   (decide
                                     (sgn (decide (x < 0)) (numW (digits x.natAbs).length (digits x.natAbs)) *
                                         sgn (decide (IntKind.i64.wrap (IntKind.i64.wrap (2 * r) + 1) < 0))
                                           (numW (digits (IntKind.i64.wrap (IntKind.i64.wrap (2 * r) + 1)).natAbs).length
                                             (digits (IntKind.i64.wrap (IntKind.i64.wrap (2 * r) + 1)).natAbs)) <
                                       0))
                                   (numW
                                     (digits
                                         (sgn (decide (x < 0)) (numW (digits x.natAbs).length (digits x.natAbs)) *
                                             sgn (decide (IntKind.i64.wrap (IntKind.i64.wrap (2 * r) + 1) < 0))
                                               (numW (digits (IntKind.i64.wrap (IntKind.i64.wrap (2 * r) + 1)).natAbs).length
                                                 (digits
                                                   (IntKind.i64.wrap (IntKind.i64.wrap (2 * r) + 1)).natAbs))).natAbs).length
                                     (digits
                                       (sgn (decide (x < 0)) (numW (digits x.natAbs).length (digits x.natAbs)) *
                                           sgn (decide (IntKind.i64.wrap (IntKind.i64.wrap (2 * r) + 1) < 0))
                                             (numW (digits (IntKind.i64.wrap (IntKind.i64.wrap (2 * r) + 1)).natAbs).length
                                               (digits (IntKind.i64.wrap (IntKind.i64.wrap (2 * r) + 1)).natAbs))).natAbs)) /
                               1000000)).natAbs)])])
       else none
     else none) := by kernel_rfl
--CFEND
--CF cf62p7 (sc st se y z : Int) :: tailK Try.prog S62 noL Try.f62 0 (sndC (sndC (sndC (sndC (sndC (sndC (sndC (bodyOf Try.f62)))))))) (zipS [5, 8, 9] [pt 0, pt 1, pt 3]) [cB sc st se, zA 2 y, zB y, zC 4 z, zB z]
theorem cf62p7 (sc st se y z : Int) : tailK Try.prog S62 noL Try.f62 0 (sndC (sndC (sndC (sndC (sndC (sndC (sndC (bodyOf Try.f62)))))))) (zipS [5, 8, 9] [pt 0, pt 1, pt 3]) [cB sc st se, zA 2 y, zB y, zC 4 z, zB z] =
    (bif
         normB (digits z.natAbs).length (digits z.natAbs) &&
                   normB (digits (IntKind.i64.wrap (IntKind.i64.wrap (2 * se) + 2)).natAbs).length
                     (digits (IntKind.i64.wrap (IntKind.i64.wrap (2 * se) + 2)).natAbs) &&
                 (digits z.natAbs).length.ble (digits z.natAbs).length &&
               (digits (IntKind.i64.wrap (IntKind.i64.wrap (2 * se) + 2)).natAbs).length.ble
                 (digits (IntKind.i64.wrap (IntKind.i64.wrap (2 * se) + 2)).natAbs).length &&
             (digits z.natAbs).length.ble (OfNat.ofNat 400000) &&
           (digits (IntKind.i64.wrap (IntKind.i64.wrap (2 * se) + 2)).natAbs).length.ble (OfNat.ofNat 400000) then
       bif
           normB (digits y.natAbs).length (digits y.natAbs) &&
                     normB
                       (digits
                           (sgn (decide (z < 0)) (numW (digits z.natAbs).length (digits z.natAbs)) +
                               sgn (decide (IntKind.i64.wrap (IntKind.i64.wrap (2 * se) + 2) < 0))
                                 (numW (digits (IntKind.i64.wrap (IntKind.i64.wrap (2 * se) + 2)).natAbs).length
                                   (digits (IntKind.i64.wrap (IntKind.i64.wrap (2 * se) + 2)).natAbs))).natAbs).length
                       (digits
                         (sgn (decide (z < 0)) (numW (digits z.natAbs).length (digits z.natAbs)) +
                             sgn (decide (IntKind.i64.wrap (IntKind.i64.wrap (2 * se) + 2) < 0))
                               (numW (digits (IntKind.i64.wrap (IntKind.i64.wrap (2 * se) + 2)).natAbs).length
                                 (digits (IntKind.i64.wrap (IntKind.i64.wrap (2 * se) + 2)).natAbs))).natAbs) &&
                   (digits y.natAbs).length.ble (digits y.natAbs).length &&
                 (digits
                         (sgn (decide (z < 0)) (numW (digits z.natAbs).length (digits z.natAbs)) +
                             sgn (decide (IntKind.i64.wrap (IntKind.i64.wrap (2 * se) + 2) < 0))
                               (numW (digits (IntKind.i64.wrap (IntKind.i64.wrap (2 * se) + 2)).natAbs).length
                                 (digits (IntKind.i64.wrap (IntKind.i64.wrap (2 * se) + 2)).natAbs))).natAbs).length.ble
                   (digits
                       (sgn (decide (z < 0)) (numW (digits z.natAbs).length (digits z.natAbs)) +
                           sgn (decide (IntKind.i64.wrap (IntKind.i64.wrap (2 * se) + 2) < 0))
                             (numW (digits (IntKind.i64.wrap (IntKind.i64.wrap (2 * se) + 2)).natAbs).length
                               (digits (IntKind.i64.wrap (IntKind.i64.wrap (2 * se) + 2)).natAbs))).natAbs).length &&
               chk (false = true → 0 < numW (digits y.natAbs).length (digits y.natAbs)) &&
             chk
               (decide
                     (sgn (decide (z < 0)) (numW (digits z.natAbs).length (digits z.natAbs)) +
                         sgn
                           (decide
                             (IntKind.i64.wrap
                                 (IntKind.i64.wrap
                                     (2 *
                                       [sc, st, se].getD
                                         (0 +
                                           #[Field.mk "C" 2 0 false "" "" 0, Field.mk "T" 2 1 false "" "" 8,
                                                 Field.mk "E" 2 2 false "" "" 16][2].offset)
                                         0) +
                                   2) <
                               0))
                           (numW
                             (digits
                                 (IntKind.i64.wrap
                                     (IntKind.i64.wrap
                                         (2 *
                                           [sc, st, se].getD
                                             (0 +
                                               #[Field.mk "C" 2 0 false "" "" 0, Field.mk "T" 2 1 false "" "" 8,
                                                     Field.mk "E" 2 2 false "" "" 16][2].offset)
                                             0) +
                                       2)).natAbs).length
                             (digits
                               (IntKind.i64.wrap
                                   (IntKind.i64.wrap
                                       (2 *
                                         [sc, st, se].getD
                                           (0 +
                                             #[Field.mk "C" 2 0 false "" "" 0, Field.mk "T" 2 1 false "" "" 8,
                                                   Field.mk "E" 2 2 false "" "" 16][2].offset)
                                           0) +
                                     2)).natAbs)) <
                       0) =
                   true →
                 0 <
                   numW
                     (digits
                         (sgn (decide (z < 0)) (numW (digits z.natAbs).length (digits z.natAbs)) +
                             sgn
                               (decide
                                 (IntKind.i64.wrap
                                     (IntKind.i64.wrap
                                         (2 *
                                           [sc, st, se].getD
                                             (0 +
                                               #[Field.mk "C" 2 0 false "" "" 0, Field.mk "T" 2 1 false "" "" 8,
                                                     Field.mk "E" 2 2 false "" "" 16][2].offset)
                                             0) +
                                       2) <
                                   0))
                               (numW
                                 (digits
                                     (IntKind.i64.wrap
                                         (IntKind.i64.wrap
                                             (2 *
                                               [sc, st, se].getD
                                                 (0 +
                                                   #[Field.mk "C" 2 0 false "" "" 0, Field.mk "T" 2 1 false "" "" 8,
                                                         Field.mk "E" 2 2 false "" "" 16][2].offset)
                                                 0) +
                                           2)).natAbs).length
                                 (digits
                                   (IntKind.i64.wrap
                                       (IntKind.i64.wrap
                                           (2 *
                                             [sc, st, se].getD
                                               (0 +
                                                 #[Field.mk "C" 2 0 false "" "" 0, Field.mk "T" 2 1 false "" "" 8,
                                                       Field.mk "E" 2 2 false "" "" 16][2].offset)
                                               0) +
                                         2)).natAbs))).natAbs).length
                     (digits
                       (sgn (decide (z < 0)) (numW (digits z.natAbs).length (digits z.natAbs)) +
                           sgn
                             (decide
                               (IntKind.i64.wrap
                                   (IntKind.i64.wrap
                                       (2 *
                                         [sc, st, se].getD
                                           (0 +
                                             #[Field.mk "C" 2 0 false "" "" 0, Field.mk "T" 2 1 false "" "" 8,
                                                   Field.mk "E" 2 2 false "" "" 16][2].offset)
                                           0) +
                                     2) <
                                 0))
                             (numW
                               (digits
                                   (IntKind.i64.wrap
                                       (IntKind.i64.wrap
                                           (2 *
                                             [sc, st, se].getD
                                               (0 +
                                                 #[Field.mk "C" 2 0 false "" "" 0, Field.mk "T" 2 1 false "" "" 8,
                                                       Field.mk "E" 2 2 false "" "" 16][2].offset)
                                               0) +
                                         2)).natAbs).length
                               (digits
                                 (IntKind.i64.wrap
                                     (IntKind.i64.wrap
                                         (2 *
                                           [sc, st, se].getD
                                             (0 +
                                               #[Field.mk "C" 2 0 false "" "" 0, Field.mk "T" 2 1 false "" "" 8,
                                                     Field.mk "E" 2 2 false "" "" 16][2].offset)
                                             0) +
                                       2)).natAbs))).natAbs)) then
         some
           (Res.ret
             (Value.bool
               (decide
                 (cmpZ (sgn false (numW (digits y.natAbs).length (digits y.natAbs)))
                     (sgn
                       (decide
                         (sgn (decide (z < 0)) (numW (digits z.natAbs).length (digits z.natAbs)) +
                             sgn (decide (IntKind.i64.wrap (IntKind.i64.wrap (2 * se) + 2) < 0))
                               (numW (digits (IntKind.i64.wrap (IntKind.i64.wrap (2 * se) + 2)).natAbs).length
                                 (digits (IntKind.i64.wrap (IntKind.i64.wrap (2 * se) + 2)).natAbs)) <
                           0))
                       (numW
                         (digits
                             (sgn (decide (z < 0)) (numW (digits z.natAbs).length (digits z.natAbs)) +
                                 sgn (decide (IntKind.i64.wrap (IntKind.i64.wrap (2 * se) + 2) < 0))
                                   (numW (digits (IntKind.i64.wrap (IntKind.i64.wrap (2 * se) + 2)).natAbs).length
                                     (digits (IntKind.i64.wrap (IntKind.i64.wrap (2 * se) + 2)).natAbs))).natAbs).length
                         (digits
                           (sgn (decide (z < 0)) (numW (digits z.natAbs).length (digits z.natAbs)) +
                               sgn (decide (IntKind.i64.wrap (IntKind.i64.wrap (2 * se) + 2) < 0))
                                 (numW (digits (IntKind.i64.wrap (IntKind.i64.wrap (2 * se) + 2)).natAbs).length
                                   (digits (IntKind.i64.wrap (IntKind.i64.wrap (2 * se) + 2)).natAbs))).natAbs))) ≤
                   0)))
             [])
       else none
     else none) := by kernel_rfl
--CFEND
--CF cf63 (r e t b n cc ct sc st se need : Int) :: fnK Try.prog (mkS []) noL Try.f63 [w63 r, a3 e t b, a3 n cc ct, a3 sc st se, w63 need] []
theorem cf63 (r e t b n cc ct sc st se need : Int) : fnK Try.prog (mkS []) noL Try.f63 [w63 r, a3 e t b, a3 n cc ct, a3 sc st se, w63 need] [] =
    (bif e == 7 then
       bif decide (sc ≥ 0) then
         bif decide (st ≥ 0) then
           bif decide (st ≤ 6000000000000000000) then
             bif decide (se ≥ 0) then
               bif decide (r ≥ 1) then
                 bif decide (r ≤ 500) then
                   bif decide (se ≤ 1000000000) then
                     bif decide (need ≥ 1) then
                       bif decide (need ≤ 100) then
                         bif decide (n ≥ 0) then some (Res.ret (Value.bool (decide (n ≤ 1000))) [])
                         else some (Res.ret (Value.bool false) [])
                       else some (Res.ret (Value.bool false) [])
                     else some (Res.ret (Value.bool false) [])
                   else some (Res.ret (Value.bool false) [])
                 else some (Res.ret (Value.bool false) [])
               else some (Res.ret (Value.bool false) [])
             else
               bif decide (r ≥ 1) then
                 bif decide (r ≤ 500) then some (Res.ret (Value.bool false) []) else some (Res.ret (Value.bool false) [])
               else some (Res.ret (Value.bool false) [])
           else
             bif decide (r ≥ 1) then
               bif decide (r ≤ 500) then some (Res.ret (Value.bool false) []) else some (Res.ret (Value.bool false) [])
             else some (Res.ret (Value.bool false) [])
         else
           bif decide (r ≥ 1) then
             bif decide (r ≤ 500) then some (Res.ret (Value.bool false) []) else some (Res.ret (Value.bool false) [])
           else some (Res.ret (Value.bool false) [])
       else
         bif decide (r ≥ 1) then
           bif decide (r ≤ 500) then some (Res.ret (Value.bool false) []) else some (Res.ret (Value.bool false) [])
         else some (Res.ret (Value.bool false) [])
     else
       bif e == 9 then
         bif decide (sc ≥ 0) then
           bif decide (st ≥ 0) then
             bif decide (st ≤ 6000000000000000000) then
               bif decide (se ≥ 0) then
                 bif decide (r ≥ 1) then
                   bif decide (r ≤ 500) then
                     bif decide (se ≤ 1000000000) then
                       bif decide (need ≥ 1) then
                         bif decide (need ≤ 100) then
                           bif decide (n ≥ 0) then some (Res.ret (Value.bool (decide (n ≤ 1000))) [])
                           else some (Res.ret (Value.bool false) [])
                         else some (Res.ret (Value.bool false) [])
                       else some (Res.ret (Value.bool false) [])
                     else some (Res.ret (Value.bool false) [])
                   else some (Res.ret (Value.bool false) [])
                 else some (Res.ret (Value.bool false) [])
               else
                 bif decide (r ≥ 1) then
                   bif decide (r ≤ 500) then some (Res.ret (Value.bool false) []) else some (Res.ret (Value.bool false) [])
                 else some (Res.ret (Value.bool false) [])
             else
               bif decide (r ≥ 1) then
                 bif decide (r ≤ 500) then some (Res.ret (Value.bool false) []) else some (Res.ret (Value.bool false) [])
               else some (Res.ret (Value.bool false) [])
           else
             bif decide (r ≥ 1) then
               bif decide (r ≤ 500) then some (Res.ret (Value.bool false) []) else some (Res.ret (Value.bool false) [])
             else some (Res.ret (Value.bool false) [])
         else
           bif decide (r ≥ 1) then
             bif decide (r ≤ 500) then some (Res.ret (Value.bool false) []) else some (Res.ret (Value.bool false) [])
           else some (Res.ret (Value.bool false) [])
       else
         bif e == 10 then
           bif decide (sc ≥ 0) then
             bif decide (st ≥ 0) then
               bif decide (st ≤ 6000000000000000000) then
                 bif decide (se ≥ 0) then
                   bif decide (r ≥ 1) then
                     bif decide (r ≤ 500) then
                       bif decide (se ≤ 1000000000) then
                         bif decide (need ≥ 1) then
                           bif decide (need ≤ 100) then
                             bif decide (n ≥ 0) then some (Res.ret (Value.bool (decide (n ≤ 1000))) [])
                             else some (Res.ret (Value.bool false) [])
                           else some (Res.ret (Value.bool false) [])
                         else some (Res.ret (Value.bool false) [])
                       else some (Res.ret (Value.bool false) [])
                     else some (Res.ret (Value.bool false) [])
                   else some (Res.ret (Value.bool false) [])
                 else
                   bif decide (r ≥ 1) then
                     bif decide (r ≤ 500) then some (Res.ret (Value.bool false) []) else some (Res.ret (Value.bool false) [])
                   else some (Res.ret (Value.bool false) [])
               else
                 bif decide (r ≥ 1) then
                   bif decide (r ≤ 500) then some (Res.ret (Value.bool false) []) else some (Res.ret (Value.bool false) [])
                 else some (Res.ret (Value.bool false) [])
             else
               bif decide (r ≥ 1) then
                 bif decide (r ≤ 500) then some (Res.ret (Value.bool false) []) else some (Res.ret (Value.bool false) [])
               else some (Res.ret (Value.bool false) [])
           else
             bif decide (r ≥ 1) then
               bif decide (r ≤ 500) then some (Res.ret (Value.bool false) []) else some (Res.ret (Value.bool false) [])
             else some (Res.ret (Value.bool false) [])
         else
           bif e == 0 then
             bif decide (t ≥ 0) then
               bif decide (t ≤ 6000000000000000000) then
                 bif decide (b ≥ 0) then
                   bif decide (sc ≥ 0) then
                     bif decide (st ≥ 0) then
                       bif decide (st ≤ 6000000000000000000) then
                         bif decide (se ≥ 0) then
                           bif decide (r ≥ 1) then
                             bif decide (r ≤ 500) then
                               bif decide (b ≤ 4611686018427387904) then
                                 bif decide (se ≤ 1000000000) then
                                   bif decide (need ≥ 1) then
                                     bif decide (need ≤ 100) then
                                       bif decide (n ≥ 0) then some (Res.ret (Value.bool (decide (n ≤ 1000))) [])
                                       else some (Res.ret (Value.bool false) [])
                                     else some (Res.ret (Value.bool false) [])
                                   else some (Res.ret (Value.bool false) [])
                                 else some (Res.ret (Value.bool false) [])
                               else some (Res.ret (Value.bool false) [])
                             else some (Res.ret (Value.bool false) [])
                           else some (Res.ret (Value.bool false) [])
                         else
                           bif decide (r ≥ 1) then
                             bif decide (r ≤ 500) then
                               bif decide (b ≤ 4611686018427387904) then some (Res.ret (Value.bool false) [])
                               else some (Res.ret (Value.bool false) [])
                             else some (Res.ret (Value.bool false) [])
                           else some (Res.ret (Value.bool false) [])
                       else
                         bif decide (r ≥ 1) then
                           bif decide (r ≤ 500) then
                             bif decide (b ≤ 4611686018427387904) then some (Res.ret (Value.bool false) [])
                             else some (Res.ret (Value.bool false) [])
                           else some (Res.ret (Value.bool false) [])
                         else some (Res.ret (Value.bool false) [])
                     else
                       bif decide (r ≥ 1) then
                         bif decide (r ≤ 500) then
                           bif decide (b ≤ 4611686018427387904) then some (Res.ret (Value.bool false) [])
                           else some (Res.ret (Value.bool false) [])
                         else some (Res.ret (Value.bool false) [])
                       else some (Res.ret (Value.bool false) [])
                   else
                     bif decide (r ≥ 1) then
                       bif decide (r ≤ 500) then
                         bif decide (b ≤ 4611686018427387904) then some (Res.ret (Value.bool false) [])
                         else some (Res.ret (Value.bool false) [])
                       else some (Res.ret (Value.bool false) [])
                     else some (Res.ret (Value.bool false) [])
                 else
                   bif decide (sc ≥ 0) then
                     bif decide (st ≥ 0) then
                       bif decide (st ≤ 6000000000000000000) then
                         bif decide (se ≥ 0) then
                           bif decide (r ≥ 1) then
                             bif decide (r ≤ 500) then some (Res.ret (Value.bool false) [])
                             else some (Res.ret (Value.bool false) [])
                           else some (Res.ret (Value.bool false) [])
                         else
                           bif decide (r ≥ 1) then
                             bif decide (r ≤ 500) then some (Res.ret (Value.bool false) [])
                             else some (Res.ret (Value.bool false) [])
                           else some (Res.ret (Value.bool false) [])
                       else
                         bif decide (r ≥ 1) then
                           bif decide (r ≤ 500) then some (Res.ret (Value.bool false) [])
                           else some (Res.ret (Value.bool false) [])
                         else some (Res.ret (Value.bool false) [])
                     else
                       bif decide (r ≥ 1) then
                         bif decide (r ≤ 500) then some (Res.ret (Value.bool false) [])
                         else some (Res.ret (Value.bool false) [])
                       else some (Res.ret (Value.bool false) [])
                   else
                     bif decide (r ≥ 1) then
                       bif decide (r ≤ 500) then some (Res.ret (Value.bool false) [])
                       else some (Res.ret (Value.bool false) [])
                     else some (Res.ret (Value.bool false) [])
               else
                 bif decide (sc ≥ 0) then
                   bif decide (st ≥ 0) then
                     bif decide (st ≤ 6000000000000000000) then
                       bif decide (se ≥ 0) then
                         bif decide (r ≥ 1) then
                           bif decide (r ≤ 500) then some (Res.ret (Value.bool false) [])
                           else some (Res.ret (Value.bool false) [])
                         else some (Res.ret (Value.bool false) [])
                       else
                         bif decide (r ≥ 1) then
                           bif decide (r ≤ 500) then some (Res.ret (Value.bool false) [])
                           else some (Res.ret (Value.bool false) [])
                         else some (Res.ret (Value.bool false) [])
                     else
                       bif decide (r ≥ 1) then
                         bif decide (r ≤ 500) then some (Res.ret (Value.bool false) [])
                         else some (Res.ret (Value.bool false) [])
                       else some (Res.ret (Value.bool false) [])
                   else
                     bif decide (r ≥ 1) then
                       bif decide (r ≤ 500) then some (Res.ret (Value.bool false) [])
                       else some (Res.ret (Value.bool false) [])
                     else some (Res.ret (Value.bool false) [])
                 else
                   bif decide (r ≥ 1) then
                     bif decide (r ≤ 500) then some (Res.ret (Value.bool false) []) else some (Res.ret (Value.bool false) [])
                   else some (Res.ret (Value.bool false) [])
             else
               bif decide (sc ≥ 0) then
                 bif decide (st ≥ 0) then
                   bif decide (st ≤ 6000000000000000000) then
                     bif decide (se ≥ 0) then
                       bif decide (r ≥ 1) then
                         bif decide (r ≤ 500) then some (Res.ret (Value.bool false) [])
                         else some (Res.ret (Value.bool false) [])
                       else some (Res.ret (Value.bool false) [])
                     else
                       bif decide (r ≥ 1) then
                         bif decide (r ≤ 500) then some (Res.ret (Value.bool false) [])
                         else some (Res.ret (Value.bool false) [])
                       else some (Res.ret (Value.bool false) [])
                   else
                     bif decide (r ≥ 1) then
                       bif decide (r ≤ 500) then some (Res.ret (Value.bool false) [])
                       else some (Res.ret (Value.bool false) [])
                     else some (Res.ret (Value.bool false) [])
                 else
                   bif decide (r ≥ 1) then
                     bif decide (r ≤ 500) then some (Res.ret (Value.bool false) []) else some (Res.ret (Value.bool false) [])
                   else some (Res.ret (Value.bool false) [])
               else
                 bif decide (r ≥ 1) then
                   bif decide (r ≤ 500) then some (Res.ret (Value.bool false) []) else some (Res.ret (Value.bool false) [])
                 else some (Res.ret (Value.bool false) [])
           else
             bif decide (sc ≥ 0) then
               bif decide (st ≥ 0) then
                 bif decide (st ≤ 6000000000000000000) then
                   bif decide (se ≥ 0) then
                     bif decide (r ≥ 1) then
                       bif decide (r ≤ 500) then some (Res.ret (Value.bool false) [])
                       else some (Res.ret (Value.bool false) [])
                     else some (Res.ret (Value.bool false) [])
                   else
                     bif decide (r ≥ 1) then
                       bif decide (r ≤ 500) then some (Res.ret (Value.bool false) [])
                       else some (Res.ret (Value.bool false) [])
                     else some (Res.ret (Value.bool false) [])
                 else
                   bif decide (r ≥ 1) then
                     bif decide (r ≤ 500) then some (Res.ret (Value.bool false) []) else some (Res.ret (Value.bool false) [])
                   else some (Res.ret (Value.bool false) [])
               else
                 bif decide (r ≥ 1) then
                   bif decide (r ≤ 500) then some (Res.ret (Value.bool false) []) else some (Res.ret (Value.bool false) [])
                 else some (Res.ret (Value.bool false) [])
             else
               bif decide (r ≥ 1) then
                 bif decide (r ≤ 500) then some (Res.ret (Value.bool false) []) else some (Res.ret (Value.bool false) [])
               else some (Res.ret (Value.bool false) [])) := by kernel_rfl
--CFEND
noncomputable def meetB (t b st se : Int) : Bool := chk (t - b ≤ st + se ∧ st - se ≤ t + b)
noncomputable def F106 : FSpec := fun args h k => match args, h with
  | [.agg ⟨[.int .i64 _, .int .i64 t, .int .i64 b]⟩, .agg ⟨[.int .i64 _, .int .i64 st, .int .i64 se]⟩], [] => k (.bool (meetB t b st se)) []
  | _, _ => none
noncomputable def S64 : Spec := mkS [(62, false, F61), (106, false, F106)]
--CF cf64 (r e t b n cc ct sc st se need : Int) :: fnK Try.prog S64 noL Try.f64 [w63 r, a3 e t b, a3 n cc ct, a3 sc st se, w63 need] []
theorem cf64 (r e t b n cc ct sc st se need : Int) : fnK Try.prog S64 noL Try.f64 [w63 r, a3 e t b, a3 n cc ct, a3 sc st se, w63 need] [] =
    (bif e == 10 then
       some
         (Res.ret
           (Value.tuple
             (Array.mk
               [Value.int IntKind.u8 2,
                 Value.agg (Array.mk [Value.int IntKind.i64 n, Value.int IntKind.i64 cc, Value.int IntKind.i64 ct])]))
           [])
     else
       bif e != 0 then
         some
           (Res.ret
             (Value.tuple
               (Array.mk
                 [Value.int IntKind.u8 1,
                   Value.agg (Array.mk [Value.int IntKind.i64 0, Value.int IntKind.i64 0, Value.int IntKind.i64 0])]))
             [])
       else
         bif meetB t b st se then
           some
             (Res.ret
               (Value.tuple
                 (Array.mk
                   [Value.int IntKind.u8 1,
                     Value.agg (Array.mk [Value.int IntKind.i64 0, Value.int IntKind.i64 0, Value.int IntKind.i64 0])]))
               [])
         else
           bif chk (0 ≤ se ∧ se ≤ 1152921504606846976) then
             bif followsB r n cc ct sc st se then
               bif decide (IntKind.i64.wrap (1 + n) ≥ need) then
                 some
                   (Res.ret
                     (Value.tuple
                       (Array.mk
                         [Value.int IntKind.u8 3,
                           Value.agg
                             (Array.mk [Value.int IntKind.i64 0, Value.int IntKind.i64 0, Value.int IntKind.i64 0])]))
                     [])
               else
                 some
                   (Res.ret
                     (Value.tuple
                       (Array.mk
                         [Value.int IntKind.u8 2,
                           Value.agg
                             (Array.mk
                               [Value.int IntKind.i64 (IntKind.i64.wrap (1 + n)), Value.int IntKind.i64 sc,
                                 Value.int IntKind.i64 st])]))
                     [])
             else
               bif decide (1 ≥ need) then
                 some
                   (Res.ret
                     (Value.tuple
                       (Array.mk
                         [Value.int IntKind.u8 3,
                           Value.agg
                             (Array.mk [Value.int IntKind.i64 0, Value.int IntKind.i64 0, Value.int IntKind.i64 0])]))
                     [])
               else
                 some
                   (Res.ret
                     (Value.tuple
                       (Array.mk
                         [Value.int IntKind.u8 2,
                           Value.agg
                             (Array.mk [Value.int IntKind.i64 1, Value.int IntKind.i64 sc, Value.int IntKind.i64 st])]))
                     [])
           else none) := by kernel_rfl
--CFEND
end Go.Proofs.Ytfgehfnlkakioaa.VC
