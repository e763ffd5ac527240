/-
  No cell of these rows narrows 'for every input' (looked for: loops, veiled, ifaces, maps, wideKeys, modest, calm, conditions, laid).
  DERIVED. THE GIVEN ROWS OF THIS SEAT. 5 by the template 'for every input the law returns true; each argument reads behind the call as it read before'; 0 by the template 'total and deterministic' (their statements: YthdeanljgdjbhaaTotals.lean).
  GIVEN WITH THE SEED: the statements are not yours to turn. If you find one false, say at which input.
  Laid BY PROGRAM, IN A SANDBOX (cutbox-rows.mjs): the forced cells as the released guide's own fill.sh prints them over the translation fe99ed7c3b0471bf… (all of the seat's roots in one cut). By AI agents, Wed Nov 11 2026. No macro, syntax, notation, axiom, sorry.
-/
import Derived.Test.YthdeanljgdjbhaaChecked
import GoSem.Claim
import GoSem.ClaimJoined
import GoSem.ClaimMapViews
import Derived.JoinedTies
import Derived.KernelRfl
namespace Go.Proofs.Ythdeanljgdjbhaa
/- THE CELL 'sum', in the pinned program and in every row, IS THE sha256 OF THE DUMP (.gsa) THAT YthdeanljgdjbhaaProg.lean LOADS. Nothing in Lean hashes anything: it is a label: what it is worth is what the hold of that sum in a sandbox is worth. -/
noncomputable def Try.pinned : Pinned := { name := "ythdeanljgdjbhaa", sum := "fe99ed7c3b0471bf5503c5cc95c8375cb560e649b92a502b16d4614e932fc93c", checked := Try.checked }
namespace Rows
def none {H : Type} : Left H := { results := [], args := [] }

/-- 'remontoirelaw19.MedianPlays': WHATEVER THE INPUT: true; the input reads as it did. -/
def medianPlaysSpec : ChangeSpec := { name := "medianPlays", fn := fun _ => fun
  | [d1, d2, d3] => { results := [.lit (.bool true)], args := [d1, d2, d3] }
  | _ => none }
def medianPlaysRow : OpenClaim := { program := "ythdeanljgdjbhaa", sum := "fe99ed7c3b0471bf5503c5cc95c8375cb560e649b92a502b16d4614e932fc93c", func := "remontoire/remontoirelaw19.MedianPlays", spec := "medianPlays", unfollowed := true, recurses := true, plainKeys := false, apart := false }
def MedianPlaysSaid : Prop := medianPlaysRow.holds Try.pinned (OpenSpec.ofChange medianPlaysSpec)

/-- ITS FALSE NEIGHBOUR: 'it returns false'. Refute it at one input. -/
def medianPlaysWrong : ChangeSpec := { name := "medianPlays", fn := fun _ => fun
  | [d1, d2, d3] => { results := [.lit (.bool false)], args := [d1, d2, d3] }
  | _ => none }
def MedianPlaysWrongFalsely : Prop := medianPlaysRow.holds Try.pinned (OpenSpec.ofChange medianPlaysWrong)

/-- 'remontoirelaw19.MedianMiddle': WHATEVER THE INPUT: true; the input reads as it did. -/
def medianMiddleSpec : ChangeSpec := { name := "medianMiddle", fn := fun _ => fun
  | [d1, d2, d3, d4, d5] => { results := [.lit (.bool true)], args := [d1, d2, d3, d4, d5] }
  | _ => none }
def medianMiddleRow : OpenClaim := { program := "ythdeanljgdjbhaa", sum := "fe99ed7c3b0471bf5503c5cc95c8375cb560e649b92a502b16d4614e932fc93c", func := "remontoire/remontoirelaw19.MedianMiddle", spec := "medianMiddle", unfollowed := true, recurses := true, plainKeys := false, apart := false }
def MedianMiddleSaid : Prop := medianMiddleRow.holds Try.pinned (OpenSpec.ofChange medianMiddleSpec)

/-- ITS FALSE NEIGHBOUR: 'it returns false'. Refute it at one input. -/
def medianMiddleWrong : ChangeSpec := { name := "medianMiddle", fn := fun _ => fun
  | [d1, d2, d3, d4, d5] => { results := [.lit (.bool false)], args := [d1, d2, d3, d4, d5] }
  | _ => none }
def MedianMiddleWrongFalsely : Prop := medianMiddleRow.holds Try.pinned (OpenSpec.ofChange medianMiddleWrong)

/-- 'remontoirelaw30.RatePlays': WHATEVER THE INPUT: true; the input reads as it did. -/
def ratePlaysSpec : ChangeSpec := { name := "ratePlays", fn := fun _ => fun
  | [d1, d2] => { results := [.lit (.bool true)], args := [d1, d2] }
  | _ => none }
def ratePlaysRow : OpenClaim := { program := "ythdeanljgdjbhaa", sum := "fe99ed7c3b0471bf5503c5cc95c8375cb560e649b92a502b16d4614e932fc93c", func := "remontoire/remontoirelaw30.RatePlays", spec := "ratePlays", inPlace := ["internal/bytealg.Compare", "maps.clone"], unfollowed := true, recurses := true, plainKeys := false, apart := false }
def RatePlaysSaid : Prop := ratePlaysRow.holds Try.pinned (OpenSpec.ofChange ratePlaysSpec)

/-- ITS FALSE NEIGHBOUR: 'it returns false'. Refute it at one input. -/
def ratePlaysWrong : ChangeSpec := { name := "ratePlays", fn := fun _ => fun
  | [d1, d2] => { results := [.lit (.bool false)], args := [d1, d2] }
  | _ => none }
def RatePlaysWrongFalsely : Prop := ratePlaysRow.holds Try.pinned (OpenSpec.ofChange ratePlaysWrong)

/-- 'remontoirelaw30.RateOnce': WHATEVER THE INPUT: true; the input reads as it did. -/
def rateOnceSpec : ChangeSpec := { name := "rateOnce", fn := fun _ => fun
  | [d1, d2, d3] => { results := [.lit (.bool true)], args := [d1, d2, d3] }
  | _ => none }
def rateOnceRow : OpenClaim := { program := "ythdeanljgdjbhaa", sum := "fe99ed7c3b0471bf5503c5cc95c8375cb560e649b92a502b16d4614e932fc93c", func := "remontoire/remontoirelaw30.RateOnce", spec := "rateOnce", inPlace := ["internal/bytealg.Compare", "maps.clone"], unfollowed := true, recurses := true, plainKeys := false, apart := false }
def RateOnceSaid : Prop := rateOnceRow.holds Try.pinned (OpenSpec.ofChange rateOnceSpec)

/-- ITS FALSE NEIGHBOUR: 'it returns false'. Refute it at one input. -/
def rateOnceWrong : ChangeSpec := { name := "rateOnce", fn := fun _ => fun
  | [d1, d2, d3] => { results := [.lit (.bool false)], args := [d1, d2, d3] }
  | _ => none }
def RateOnceWrongFalsely : Prop := rateOnceRow.holds Try.pinned (OpenSpec.ofChange rateOnceWrong)

/-- 'remontoirelaw08.FrameNone': WHATEVER THE INPUT: true; the input reads as it did. -/
def frameNoneSpec : ChangeSpec := { name := "frameNone", fn := fun _ => fun
  | [d] => { results := [.lit (.bool true)], args := [d] }
  | _ => none }
def frameNoneRow : OpenClaim := { program := "ythdeanljgdjbhaa", sum := "fe99ed7c3b0471bf5503c5cc95c8375cb560e649b92a502b16d4614e932fc93c", func := "remontoire/remontoirelaw08.FrameNone", spec := "frameNone", unfollowed := true, recurses := true, plainKeys := false, apart := false }
def FrameNoneSaid : Prop := frameNoneRow.holds Try.pinned (OpenSpec.ofChange frameNoneSpec)

/-- ITS FALSE NEIGHBOUR: 'it returns false'. Refute it at one input. -/
def frameNoneWrong : ChangeSpec := { name := "frameNone", fn := fun _ => fun
  | [d] => { results := [.lit (.bool false)], args := [d] }
  | _ => none }
def FrameNoneWrongFalsely : Prop := frameNoneRow.holds Try.pinned (OpenSpec.ofChange frameNoneWrong)

/- THE SECOND FORM. 'bulk': how many values and letters a reading holds, each counted each time it is reached (what is shared counts as often as it is met; a slice's spare places count too). A statement '..UptoSaid' is the law's where the arguments, and the package variables that the reading takes, are together of bulk at most 1048576: NARROWER than '..Said'. Prove '..Said' where nothing that the law and all that it calls make is longer than what came in: it says more and counts as full. Else prove '..UptoSaid'. A law counts once. -/
mutual
def uptoBulk {H : Type} : DataW H → Nat
  | .lit (.string bytes) => bytes.length + 1
  | .lit _ => 1
  | .nil => 1
  | .ptr d => uptoBulk d + 1
  | .slice elems spare => uptoBulkAll elems + uptoBulkAll spare + 1
  | .agg parts => uptoBulkAll parts + 1
  | .iface _ d => uptoBulk d + 1
  | .map entries => uptoBulkEntries entries + 1
  | .held _ => 1
def uptoBulkAll {H : Type} : List (DataW H) → Nat
  | [] => 0
  | d :: r => uptoBulk d + uptoBulkAll r
def uptoBulkEntries {H : Type} : List (Lit × DataW H) → Nat
  | [] => 0
  | x :: r => uptoBulkEntry x + uptoBulkEntries r
def uptoBulkEntry {H : Type} : Lit × DataW H → Nat
  | (.string bytes, d) => bytes.length + uptoBulk d + 1
  | (_, d) => uptoBulk d + 1
 end
def uptoSmall : (H : Type) → List (DataW H) → Bool := fun _ ds => decide (uptoBulkAll ds ≤ 1048576)
def OpenSpec.upto (s : _root_.Go.ChangeSpec) : _root_.Go.OpenSpec := { _root_.Go.OpenSpec.ofChange s with cond := some uptoSmall }

/-- 'remontoirelaw19.MedianPlays', WHERE WHAT IT READS IS OF BULK AT MOST 1048576: true; the input reads as it did. -/
def medianPlaysUptoRow : OpenClaim := { program := "ythdeanljgdjbhaa", sum := "fe99ed7c3b0471bf5503c5cc95c8375cb560e649b92a502b16d4614e932fc93c", func := "remontoire/remontoirelaw19.MedianPlays", spec := "medianPlays", unfollowed := true, recurses := true, plainKeys := false, apart := false, narrowed := true }
def MedianPlaysUptoSaid : Prop := medianPlaysUptoRow.holds Try.pinned (OpenSpec.upto medianPlaysSpec)

/-- 'remontoirelaw19.MedianMiddle', WHERE WHAT IT READS IS OF BULK AT MOST 1048576: true; the input reads as it did. -/
def medianMiddleUptoRow : OpenClaim := { program := "ythdeanljgdjbhaa", sum := "fe99ed7c3b0471bf5503c5cc95c8375cb560e649b92a502b16d4614e932fc93c", func := "remontoire/remontoirelaw19.MedianMiddle", spec := "medianMiddle", unfollowed := true, recurses := true, plainKeys := false, apart := false, narrowed := true }
def MedianMiddleUptoSaid : Prop := medianMiddleUptoRow.holds Try.pinned (OpenSpec.upto medianMiddleSpec)

/-- 'remontoirelaw30.RatePlays', WHERE WHAT IT READS IS OF BULK AT MOST 1048576: true; the input reads as it did. -/
def ratePlaysUptoRow : OpenClaim := { program := "ythdeanljgdjbhaa", sum := "fe99ed7c3b0471bf5503c5cc95c8375cb560e649b92a502b16d4614e932fc93c", func := "remontoire/remontoirelaw30.RatePlays", spec := "ratePlays", inPlace := ["internal/bytealg.Compare", "maps.clone"], unfollowed := true, recurses := true, plainKeys := false, apart := false, narrowed := true }
def RatePlaysUptoSaid : Prop := ratePlaysUptoRow.holds Try.pinned (OpenSpec.upto ratePlaysSpec)

/-- 'remontoirelaw30.RateOnce', WHERE WHAT IT READS IS OF BULK AT MOST 1048576: true; the input reads as it did. -/
def rateOnceUptoRow : OpenClaim := { program := "ythdeanljgdjbhaa", sum := "fe99ed7c3b0471bf5503c5cc95c8375cb560e649b92a502b16d4614e932fc93c", func := "remontoire/remontoirelaw30.RateOnce", spec := "rateOnce", inPlace := ["internal/bytealg.Compare", "maps.clone"], unfollowed := true, recurses := true, plainKeys := false, apart := false, narrowed := true }
def RateOnceUptoSaid : Prop := rateOnceUptoRow.holds Try.pinned (OpenSpec.upto rateOnceSpec)

/-- 'remontoirelaw08.FrameNone', WHERE WHAT IT READS IS OF BULK AT MOST 1048576: true; the input reads as it did. -/
def frameNoneUptoRow : OpenClaim := { program := "ythdeanljgdjbhaa", sum := "fe99ed7c3b0471bf5503c5cc95c8375cb560e649b92a502b16d4614e932fc93c", func := "remontoire/remontoirelaw08.FrameNone", spec := "frameNone", unfollowed := true, recurses := true, plainKeys := false, apart := false, narrowed := true }
def FrameNoneUptoSaid : Prop := frameNoneUptoRow.holds Try.pinned (OpenSpec.upto frameNoneSpec)

end Rows
end Go.Proofs.Ythdeanljgdjbhaa
