/-
  No cell of these rows narrows 'for every input' (looked for: loops, veiled, ifaces, maps, wideKeys, modest, calm, conditions, laid).
  DERIVED. THE GIVEN ROWS OF THIS SEAT. 11 by the template 'for every input the law returns true; each argument reads behind the call as it read before'; 0 by the template 'total and deterministic' (their statements: YtcjjngdkkihgjaaTotals.lean).
  GIVEN WITH THE SEED: the statements are not yours to turn. If you find one false, say at which input.
  Laid BY PROGRAM, IN A SANDBOX (cutbox-rows.mjs): the forced cells as the released guide's own fill.sh prints them over the translation 0781b4e9dae7d7a4… (all of the seat's roots in one cut). By AI agents, Wed Nov 11 2026. No macro, syntax, notation, axiom, sorry.
-/
import Derived.Test.YtcjjngdkkihgjaaChecked
import GoSem.Claim
import GoSem.ClaimJoined
import GoSem.ClaimMapViews
import Derived.JoinedTies
import Derived.KernelRfl
namespace Go.Proofs.Ytcjjngdkkihgjaa
/- THE CELL 'sum', in the pinned program and in every row, IS THE sha256 OF THE DUMP (.gsa) THAT YtcjjngdkkihgjaaProg.lean LOADS. Nothing in Lean hashes anything: it is a label: what it is worth is what the hold of that sum in a sandbox is worth. -/
noncomputable def Try.pinned : Pinned := { name := "ytcjjngdkkihgjaa", sum := "0781b4e9dae7d7a4824fae82dc744320d952f6a8ab9bed6527d8a4ca9b4802b4", checked := Try.checked }
namespace Rows
def none {H : Type} : Left H := { results := [], args := [] }

/-- 'remontoirelaw12.UbxReads': WHATEVER THE INPUT: true; the input reads as it did. -/
def ubxReadsSpec : ChangeSpec := { name := "ubxReads", fn := fun _ => fun
  | [d1, d2, d3] => { results := [.lit (.bool true)], args := [d1, d2, d3] }
  | _ => none }
def ubxReadsRow : OpenClaim := { program := "ytcjjngdkkihgjaa", sum := "0781b4e9dae7d7a4824fae82dc744320d952f6a8ab9bed6527d8a4ca9b4802b4", func := "remontoire/remontoirelaw12.UbxReads", spec := "ubxReads", unfollowed := true, recurses := true, plainKeys := false, apart := false }
def UbxReadsSaid : Prop := ubxReadsRow.holds Try.pinned (OpenSpec.ofChange ubxReadsSpec)

/-- ITS FALSE NEIGHBOUR: 'it returns false'. Refute it at one input. -/
def ubxReadsWrong : ChangeSpec := { name := "ubxReads", fn := fun _ => fun
  | [d1, d2, d3] => { results := [.lit (.bool false)], args := [d1, d2, d3] }
  | _ => none }
def UbxReadsWrongFalsely : Prop := ubxReadsRow.holds Try.pinned (OpenSpec.ofChange ubxReadsWrong)

/-- 'remontoirelaw12.UbxWrites': WHATEVER THE INPUT: true; the input reads as it did. -/
def ubxWritesSpec : ChangeSpec := { name := "ubxWrites", fn := fun _ => fun
  | [d] => { results := [.lit (.bool true)], args := [d] }
  | _ => none }
def ubxWritesRow : OpenClaim := { program := "ytcjjngdkkihgjaa", sum := "0781b4e9dae7d7a4824fae82dc744320d952f6a8ab9bed6527d8a4ca9b4802b4", func := "remontoire/remontoirelaw12.UbxWrites", spec := "ubxWrites", unfollowed := true, recurses := true, plainKeys := false, apart := false }
def UbxWritesSaid : Prop := ubxWritesRow.holds Try.pinned (OpenSpec.ofChange ubxWritesSpec)

/-- ITS FALSE NEIGHBOUR: 'it returns false'. Refute it at one input. -/
def ubxWritesWrong : ChangeSpec := { name := "ubxWrites", fn := fun _ => fun
  | [d] => { results := [.lit (.bool false)], args := [d] }
  | _ => none }
def UbxWritesWrongFalsely : Prop := ubxWritesRow.holds Try.pinned (OpenSpec.ofChange ubxWritesWrong)

/-- 'remontoirelaw12.UbxBack': WHATEVER THE INPUT: true; the input reads as it did. -/
def ubxBackSpec : ChangeSpec := { name := "ubxBack", fn := fun _ => fun
  | [d1, d2, d3, d4] => { results := [.lit (.bool true)], args := [d1, d2, d3, d4] }
  | _ => none }
def ubxBackRow : OpenClaim := { program := "ytcjjngdkkihgjaa", sum := "0781b4e9dae7d7a4824fae82dc744320d952f6a8ab9bed6527d8a4ca9b4802b4", func := "remontoire/remontoirelaw12.UbxBack", spec := "ubxBack", unfollowed := true, recurses := true, plainKeys := false, apart := false }
def UbxBackSaid : Prop := ubxBackRow.holds Try.pinned (OpenSpec.ofChange ubxBackSpec)

/-- ITS FALSE NEIGHBOUR: 'it returns false'. Refute it at one input. -/
def ubxBackWrong : ChangeSpec := { name := "ubxBack", fn := fun _ => fun
  | [d1, d2, d3, d4] => { results := [.lit (.bool false)], args := [d1, d2, d3, d4] }
  | _ => none }
def UbxBackWrongFalsely : Prop := ubxBackRow.holds Try.pinned (OpenSpec.ofChange ubxBackWrong)

/-- 'remontoirelaw13.SirfReads': WHATEVER THE INPUT: true; the input reads as it did. -/
def sirfReadsSpec : ChangeSpec := { name := "sirfReads", fn := fun _ => fun
  | [d] => { results := [.lit (.bool true)], args := [d] }
  | _ => none }
def sirfReadsRow : OpenClaim := { program := "ytcjjngdkkihgjaa", sum := "0781b4e9dae7d7a4824fae82dc744320d952f6a8ab9bed6527d8a4ca9b4802b4", func := "remontoire/remontoirelaw13.SirfReads", spec := "sirfReads", unfollowed := true, recurses := true, plainKeys := false, apart := false }
def SirfReadsSaid : Prop := sirfReadsRow.holds Try.pinned (OpenSpec.ofChange sirfReadsSpec)

/-- ITS FALSE NEIGHBOUR: 'it returns false'. Refute it at one input. -/
def sirfReadsWrong : ChangeSpec := { name := "sirfReads", fn := fun _ => fun
  | [d] => { results := [.lit (.bool false)], args := [d] }
  | _ => none }
def SirfReadsWrongFalsely : Prop := sirfReadsRow.holds Try.pinned (OpenSpec.ofChange sirfReadsWrong)

/-- 'remontoirelaw13.SirfWrites': WHATEVER THE INPUT: true; the input reads as it did. -/
def sirfWritesSpec : ChangeSpec := { name := "sirfWrites", fn := fun _ => fun
  | [d] => { results := [.lit (.bool true)], args := [d] }
  | _ => none }
def sirfWritesRow : OpenClaim := { program := "ytcjjngdkkihgjaa", sum := "0781b4e9dae7d7a4824fae82dc744320d952f6a8ab9bed6527d8a4ca9b4802b4", func := "remontoire/remontoirelaw13.SirfWrites", spec := "sirfWrites", unfollowed := true, recurses := true, plainKeys := false, apart := false }
def SirfWritesSaid : Prop := sirfWritesRow.holds Try.pinned (OpenSpec.ofChange sirfWritesSpec)

/-- ITS FALSE NEIGHBOUR: 'it returns false'. Refute it at one input. -/
def sirfWritesWrong : ChangeSpec := { name := "sirfWrites", fn := fun _ => fun
  | [d] => { results := [.lit (.bool false)], args := [d] }
  | _ => none }
def SirfWritesWrongFalsely : Prop := sirfWritesRow.holds Try.pinned (OpenSpec.ofChange sirfWritesWrong)

/-- 'remontoirelaw13.SirfBack': WHATEVER THE INPUT: true; the input reads as it did. -/
def sirfBackSpec : ChangeSpec := { name := "sirfBack", fn := fun _ => fun
  | [d1, d2] => { results := [.lit (.bool true)], args := [d1, d2] }
  | _ => none }
def sirfBackRow : OpenClaim := { program := "ytcjjngdkkihgjaa", sum := "0781b4e9dae7d7a4824fae82dc744320d952f6a8ab9bed6527d8a4ca9b4802b4", func := "remontoire/remontoirelaw13.SirfBack", spec := "sirfBack", unfollowed := true, recurses := true, plainKeys := false, apart := false }
def SirfBackSaid : Prop := sirfBackRow.holds Try.pinned (OpenSpec.ofChange sirfBackSpec)

/-- ITS FALSE NEIGHBOUR: 'it returns false'. Refute it at one input. -/
def sirfBackWrong : ChangeSpec := { name := "sirfBack", fn := fun _ => fun
  | [d1, d2] => { results := [.lit (.bool false)], args := [d1, d2] }
  | _ => none }
def SirfBackWrongFalsely : Prop := sirfBackRow.holds Try.pinned (OpenSpec.ofChange sirfBackWrong)

/-- 'remontoirelaw29.MacSums': WHATEVER THE INPUT: true; the input reads as it did. -/
def macSumsSpec : ChangeSpec := { name := "macSums", fn := fun _ => fun
  | [d1, d2] => { results := [.lit (.bool true)], args := [d1, d2] }
  | _ => none }
def macSumsRow : OpenClaim := { program := "ytcjjngdkkihgjaa", sum := "0781b4e9dae7d7a4824fae82dc744320d952f6a8ab9bed6527d8a4ca9b4802b4", func := "remontoire/remontoirelaw29.MacSums", spec := "macSums", plainKeys := false, apart := false }
def MacSumsSaid : Prop := macSumsRow.holds Try.pinned (OpenSpec.ofChange macSumsSpec)

/-- ITS FALSE NEIGHBOUR: 'it returns false'. Refute it at one input. -/
def macSumsWrong : ChangeSpec := { name := "macSums", fn := fun _ => fun
  | [d1, d2] => { results := [.lit (.bool false)], args := [d1, d2] }
  | _ => none }
def MacSumsWrongFalsely : Prop := macSumsRow.holds Try.pinned (OpenSpec.ofChange macSumsWrong)

/-- 'remontoirelaw29.MacPackets': WHATEVER THE INPUT: true; the input reads as it did. -/
def macPacketsSpec : ChangeSpec := { name := "macPackets", fn := fun _ => fun
  | [d1, d2, d3, d4] => { results := [.lit (.bool true)], args := [d1, d2, d3, d4] }
  | _ => none }
def macPacketsRow : OpenClaim := { program := "ytcjjngdkkihgjaa", sum := "0781b4e9dae7d7a4824fae82dc744320d952f6a8ab9bed6527d8a4ca9b4802b4", func := "remontoire/remontoirelaw29.MacPackets", spec := "macPackets", unfollowed := true, recurses := true, plainKeys := false, apart := false }
def MacPacketsSaid : Prop := macPacketsRow.holds Try.pinned (OpenSpec.ofChange macPacketsSpec)

/-- ITS FALSE NEIGHBOUR: 'it returns false'. Refute it at one input. -/
def macPacketsWrong : ChangeSpec := { name := "macPackets", fn := fun _ => fun
  | [d1, d2, d3, d4] => { results := [.lit (.bool false)], args := [d1, d2, d3, d4] }
  | _ => none }
def MacPacketsWrongFalsely : Prop := macPacketsRow.holds Try.pinned (OpenSpec.ofChange macPacketsWrong)

/-- 'remontoirelaw29.MacBack': WHATEVER THE INPUT: true; the input reads as it did. -/
def macBackSpec : ChangeSpec := { name := "macBack", fn := fun _ => fun
  | [d1, d2, d3, d4, d5] => { results := [.lit (.bool true)], args := [d1, d2, d3, d4, d5] }
  | _ => none }
def macBackRow : OpenClaim := { program := "ytcjjngdkkihgjaa", sum := "0781b4e9dae7d7a4824fae82dc744320d952f6a8ab9bed6527d8a4ca9b4802b4", func := "remontoire/remontoirelaw29.MacBack", spec := "macBack", unfollowed := true, recurses := true, plainKeys := false, apart := false }
def MacBackSaid : Prop := macBackRow.holds Try.pinned (OpenSpec.ofChange macBackSpec)

/-- ITS FALSE NEIGHBOUR: 'it returns false'. Refute it at one input. -/
def macBackWrong : ChangeSpec := { name := "macBack", fn := fun _ => fun
  | [d1, d2, d3, d4, d5] => { results := [.lit (.bool false)], args := [d1, d2, d3, d4, d5] }
  | _ => none }
def MacBackWrongFalsely : Prop := macBackRow.holds Try.pinned (OpenSpec.ofChange macBackWrong)

/-- 'remontoirelaw14.DialogPlays': WHATEVER THE INPUT: true; the input reads as it did. -/
def dialogPlaysSpec : ChangeSpec := { name := "dialogPlays", fn := fun _ => fun
  | [d1, d2, d3, d4] => { results := [.lit (.bool true)], args := [d1, d2, d3, d4] }
  | _ => none }
def dialogPlaysRow : OpenClaim := { program := "ytcjjngdkkihgjaa", sum := "0781b4e9dae7d7a4824fae82dc744320d952f6a8ab9bed6527d8a4ca9b4802b4", func := "remontoire/remontoirelaw14.DialogPlays", spec := "dialogPlays", unfollowed := true, recurses := true, plainKeys := false, apart := false }
def DialogPlaysSaid : Prop := dialogPlaysRow.holds Try.pinned (OpenSpec.ofChange dialogPlaysSpec)

/-- ITS FALSE NEIGHBOUR: 'it returns false'. Refute it at one input. -/
def dialogPlaysWrong : ChangeSpec := { name := "dialogPlays", fn := fun _ => fun
  | [d1, d2, d3, d4] => { results := [.lit (.bool false)], args := [d1, d2, d3, d4] }
  | _ => none }
def DialogPlaysWrongFalsely : Prop := dialogPlaysRow.holds Try.pinned (OpenSpec.ofChange dialogPlaysWrong)

/-- 'remontoirelaw14.DialogEnds': WHATEVER THE INPUT: true; the input reads as it did. -/
def dialogEndsSpec : ChangeSpec := { name := "dialogEnds", fn := fun _ => fun
  | [d1, d2, d3] => { results := [.lit (.bool true)], args := [d1, d2, d3] }
  | _ => none }
def dialogEndsRow : OpenClaim := { program := "ytcjjngdkkihgjaa", sum := "0781b4e9dae7d7a4824fae82dc744320d952f6a8ab9bed6527d8a4ca9b4802b4", func := "remontoire/remontoirelaw14.DialogEnds", spec := "dialogEnds", unfollowed := true, recurses := true, plainKeys := false, apart := false }
def DialogEndsSaid : Prop := dialogEndsRow.holds Try.pinned (OpenSpec.ofChange dialogEndsSpec)

/-- ITS FALSE NEIGHBOUR: 'it returns false'. Refute it at one input. -/
def dialogEndsWrong : ChangeSpec := { name := "dialogEnds", fn := fun _ => fun
  | [d1, d2, d3] => { results := [.lit (.bool false)], args := [d1, d2, d3] }
  | _ => none }
def DialogEndsWrongFalsely : Prop := dialogEndsRow.holds Try.pinned (OpenSpec.ofChange dialogEndsWrong)

/- THE SECOND FORM. 'bulk': how many values and letters a reading holds, each counted each time it is reached (what is shared counts as often as it is met; a slice's spare places count too). A statement '..UptoSaid' is the law's where the arguments, and the package variables that the reading takes, are together of bulk at most 1048576: NARROWER than '..Said'. Prove '..Said' where nothing that the law and all that it calls make is longer than what came in: it says more and counts as full. Else prove '..UptoSaid'. A law counts once. -/
mutual
def uptoBulk {H : Type} : DataW H → Nat
  | .lit (.string bytes) => bytes.length + 1
  | .lit _ => 1
  | .nil => 1
  | .ptr d => uptoBulk d + 1
  | .slice elems spare => uptoBulkAll elems + uptoBulkAll spare + 1
  | .agg parts => uptoBulkAll parts + 1
  | .iface _ d => uptoBulk d + 1
  | .map entries => uptoBulkEntries entries + 1
  | .held _ => 1
def uptoBulkAll {H : Type} : List (DataW H) → Nat
  | [] => 0
  | d :: r => uptoBulk d + uptoBulkAll r
def uptoBulkEntries {H : Type} : List (Lit × DataW H) → Nat
  | [] => 0
  | x :: r => uptoBulkEntry x + uptoBulkEntries r
def uptoBulkEntry {H : Type} : Lit × DataW H → Nat
  | (.string bytes, d) => bytes.length + uptoBulk d + 1
  | (_, d) => uptoBulk d + 1
 end
def uptoSmall : (H : Type) → List (DataW H) → Bool := fun _ ds => decide (uptoBulkAll ds ≤ 1048576)
def OpenSpec.upto (s : _root_.Go.ChangeSpec) : _root_.Go.OpenSpec := { _root_.Go.OpenSpec.ofChange s with cond := some uptoSmall }

/-- 'remontoirelaw12.UbxReads', WHERE WHAT IT READS IS OF BULK AT MOST 1048576: true; the input reads as it did. -/
def ubxReadsUptoRow : OpenClaim := { program := "ytcjjngdkkihgjaa", sum := "0781b4e9dae7d7a4824fae82dc744320d952f6a8ab9bed6527d8a4ca9b4802b4", func := "remontoire/remontoirelaw12.UbxReads", spec := "ubxReads", unfollowed := true, recurses := true, plainKeys := false, apart := false, narrowed := true }
def UbxReadsUptoSaid : Prop := ubxReadsUptoRow.holds Try.pinned (OpenSpec.upto ubxReadsSpec)

/-- 'remontoirelaw12.UbxWrites', WHERE WHAT IT READS IS OF BULK AT MOST 1048576: true; the input reads as it did. -/
def ubxWritesUptoRow : OpenClaim := { program := "ytcjjngdkkihgjaa", sum := "0781b4e9dae7d7a4824fae82dc744320d952f6a8ab9bed6527d8a4ca9b4802b4", func := "remontoire/remontoirelaw12.UbxWrites", spec := "ubxWrites", unfollowed := true, recurses := true, plainKeys := false, apart := false, narrowed := true }
def UbxWritesUptoSaid : Prop := ubxWritesUptoRow.holds Try.pinned (OpenSpec.upto ubxWritesSpec)

/-- 'remontoirelaw12.UbxBack', WHERE WHAT IT READS IS OF BULK AT MOST 1048576: true; the input reads as it did. -/
def ubxBackUptoRow : OpenClaim := { program := "ytcjjngdkkihgjaa", sum := "0781b4e9dae7d7a4824fae82dc744320d952f6a8ab9bed6527d8a4ca9b4802b4", func := "remontoire/remontoirelaw12.UbxBack", spec := "ubxBack", unfollowed := true, recurses := true, plainKeys := false, apart := false, narrowed := true }
def UbxBackUptoSaid : Prop := ubxBackUptoRow.holds Try.pinned (OpenSpec.upto ubxBackSpec)

/-- 'remontoirelaw13.SirfReads', WHERE WHAT IT READS IS OF BULK AT MOST 1048576: true; the input reads as it did. -/
def sirfReadsUptoRow : OpenClaim := { program := "ytcjjngdkkihgjaa", sum := "0781b4e9dae7d7a4824fae82dc744320d952f6a8ab9bed6527d8a4ca9b4802b4", func := "remontoire/remontoirelaw13.SirfReads", spec := "sirfReads", unfollowed := true, recurses := true, plainKeys := false, apart := false, narrowed := true }
def SirfReadsUptoSaid : Prop := sirfReadsUptoRow.holds Try.pinned (OpenSpec.upto sirfReadsSpec)

/-- 'remontoirelaw13.SirfWrites', WHERE WHAT IT READS IS OF BULK AT MOST 1048576: true; the input reads as it did. -/
def sirfWritesUptoRow : OpenClaim := { program := "ytcjjngdkkihgjaa", sum := "0781b4e9dae7d7a4824fae82dc744320d952f6a8ab9bed6527d8a4ca9b4802b4", func := "remontoire/remontoirelaw13.SirfWrites", spec := "sirfWrites", unfollowed := true, recurses := true, plainKeys := false, apart := false, narrowed := true }
def SirfWritesUptoSaid : Prop := sirfWritesUptoRow.holds Try.pinned (OpenSpec.upto sirfWritesSpec)

/-- 'remontoirelaw13.SirfBack', WHERE WHAT IT READS IS OF BULK AT MOST 1048576: true; the input reads as it did. -/
def sirfBackUptoRow : OpenClaim := { program := "ytcjjngdkkihgjaa", sum := "0781b4e9dae7d7a4824fae82dc744320d952f6a8ab9bed6527d8a4ca9b4802b4", func := "remontoire/remontoirelaw13.SirfBack", spec := "sirfBack", unfollowed := true, recurses := true, plainKeys := false, apart := false, narrowed := true }
def SirfBackUptoSaid : Prop := sirfBackUptoRow.holds Try.pinned (OpenSpec.upto sirfBackSpec)

/-- 'remontoirelaw29.MacSums', WHERE WHAT IT READS IS OF BULK AT MOST 1048576: true; the input reads as it did. -/
def macSumsUptoRow : OpenClaim := { program := "ytcjjngdkkihgjaa", sum := "0781b4e9dae7d7a4824fae82dc744320d952f6a8ab9bed6527d8a4ca9b4802b4", func := "remontoire/remontoirelaw29.MacSums", spec := "macSums", plainKeys := false, apart := false, narrowed := true }
def MacSumsUptoSaid : Prop := macSumsUptoRow.holds Try.pinned (OpenSpec.upto macSumsSpec)

/-- 'remontoirelaw29.MacPackets', WHERE WHAT IT READS IS OF BULK AT MOST 1048576: true; the input reads as it did. -/
def macPacketsUptoRow : OpenClaim := { program := "ytcjjngdkkihgjaa", sum := "0781b4e9dae7d7a4824fae82dc744320d952f6a8ab9bed6527d8a4ca9b4802b4", func := "remontoire/remontoirelaw29.MacPackets", spec := "macPackets", unfollowed := true, recurses := true, plainKeys := false, apart := false, narrowed := true }
def MacPacketsUptoSaid : Prop := macPacketsUptoRow.holds Try.pinned (OpenSpec.upto macPacketsSpec)

/-- 'remontoirelaw29.MacBack', WHERE WHAT IT READS IS OF BULK AT MOST 1048576: true; the input reads as it did. -/
def macBackUptoRow : OpenClaim := { program := "ytcjjngdkkihgjaa", sum := "0781b4e9dae7d7a4824fae82dc744320d952f6a8ab9bed6527d8a4ca9b4802b4", func := "remontoire/remontoirelaw29.MacBack", spec := "macBack", unfollowed := true, recurses := true, plainKeys := false, apart := false, narrowed := true }
def MacBackUptoSaid : Prop := macBackUptoRow.holds Try.pinned (OpenSpec.upto macBackSpec)

/-- 'remontoirelaw14.DialogPlays', WHERE WHAT IT READS IS OF BULK AT MOST 1048576: true; the input reads as it did. -/
def dialogPlaysUptoRow : OpenClaim := { program := "ytcjjngdkkihgjaa", sum := "0781b4e9dae7d7a4824fae82dc744320d952f6a8ab9bed6527d8a4ca9b4802b4", func := "remontoire/remontoirelaw14.DialogPlays", spec := "dialogPlays", unfollowed := true, recurses := true, plainKeys := false, apart := false, narrowed := true }
def DialogPlaysUptoSaid : Prop := dialogPlaysUptoRow.holds Try.pinned (OpenSpec.upto dialogPlaysSpec)

/-- 'remontoirelaw14.DialogEnds', WHERE WHAT IT READS IS OF BULK AT MOST 1048576: true; the input reads as it did. -/
def dialogEndsUptoRow : OpenClaim := { program := "ytcjjngdkkihgjaa", sum := "0781b4e9dae7d7a4824fae82dc744320d952f6a8ab9bed6527d8a4ca9b4802b4", func := "remontoire/remontoirelaw14.DialogEnds", spec := "dialogEnds", unfollowed := true, recurses := true, plainKeys := false, apart := false, narrowed := true }
def DialogEndsUptoSaid : Prop := dialogEndsUptoRow.holds Try.pinned (OpenSpec.upto dialogEndsSpec)

end Rows
end Go.Proofs.Ytcjjngdkkihgjaa
