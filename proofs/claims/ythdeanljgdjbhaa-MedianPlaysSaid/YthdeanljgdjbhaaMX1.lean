/- The library's sorting and deleting at the window of numbers. -/
import Derived.Test.YthdeanljgdjbhaaDLT
import Derived.Test.YthdeanljgdjbhaaPX
import Derived.Test.YthdeanljgdjbhaaNX
import Derived.Test.YthdeanljgdjbhaaOZ
import Derived.Ground.SlgmProg
import Derived.Ground.SlgnProg
import Derived.Test.YthdeanljgdjbhaaProg
namespace Go.Proofs.Ythdeanljgdjbhaa
open Go Go.Proofs Go.Shelf
shelf_lay_g SlLaysM.n5 Slgm 5 at Try 34 as Try.sortLay
shelf_lay_g SlLaysE.n45 Slgn 45 at Try 35 as Try.delLay
namespace VC
theorem okSort : EntryOK Try.prog 34 FSrt :=
  okSrt (Try.sortLay.f5.enters rfl) (fun blk off cap zs w hH hb hs => AnyM.slices_Sort_int Try.sortLay blk off cap zs w hH hb hs)
theorem okDelete : EntryOK Try.prog 35 FDel :=
  okDel Try.delLay rfl (fun w => Try.zeroValue2 w) Try.t2 (by kernel_rfl) (by kernel_rfl)
end VC
end Go.Proofs.Ythdeanljgdjbhaa
