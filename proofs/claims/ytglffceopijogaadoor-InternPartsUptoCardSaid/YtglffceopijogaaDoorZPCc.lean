/- plain: a line as it counts: the program's answer and the reference's -/
import Derived.Test.YtglffceopijogaaDoorZPQa
import Derived.Test.YtglffceopijogaaDoorZPCb
import Derived.Test.YtglffceopijogaaDoorZPXx20
import Derived.Test.YtglffceopijogaaDoorZPXx4
import Derived.Test.YtglffceopijogaaDoorZPXx47
import Derived.Test.YtglffceopijogaaDoorZPXx48
import Derived.Test.YtglffceopijogaaDoorZPXx49
import Derived.Test.YtglffceopijogaaDoorZPXx50
import Derived.Test.YtglffceopijogaaDoorZPXx51
import Derived.Test.YtglffceopijogaaDoorZPXx52
import Derived.Test.YtglffceopijogaaDoorZPXx53
import Derived.Test.YtglffceopijogaaDoorZPXx54
import Derived.Test.YtglffceopijogaaDoorZPXx55
import Derived.Test.YtglffceopijogaaDoorZPXx56
namespace Go.Proofs.YtglffceopijogaaDoor.Q
set_option linter.unusedVariables false
set_option linter.unusedSimpArgs false
open Go.RowKit Go.Proofs.YtglffceopijogaaDoor.X Go.Proofs.YtglffceopijogaaDoorW.PrintWords Go.Proofs.YtglffceopijogaaDoorW.PrintLast Go.Proofs.YtglffceopijogaaDoorW.PrintMore
namespace C3
open Ca (wb wh T wt sq)
abbrev tt (l : List UInt8) : ByteArray := ⟨l.toArray⟩
abbrev I (b : UInt8) : Int := (b.toNat : Int)
theorem tt_size (l : List UInt8) : (tt l).size = l.length := by rw [Lib.size_eq]
theorem tt_self (s : ByteArray) : tt s.data.toList = s := by cases s; rfl
theorem tt_inj {a b : ByteArray} (h : a.data.toList = b.data.toList) : a = b := by rw [← tt_self a, h, tt_self b]
theorem bt_get (s : ByteArray) (i : Nat) (h : i < s.size) : bt s (i : Int) = ((s.data.toList.getD i 0).toNat : Int) := by
  have h2 := bt_at s (i : Int) (by simpa using h)
  rw [← h2]
  have h3 : i < s.data.toList.length := by rw [← Lib.size_eq]; exact h
  rw [List.getD_eq_getElem?_getD, List.getElem?_eq_getElem h3]
  rfl
theorem dropU (l : List UInt8) (i : Nat) (h : i < l.length) : l.drop i = l.getD i 0 :: l.drop (i + 1) := by
  rw [List.drop_eq_getElem_cons h, List.getD_eq_getElem?_getD, List.getElem?_eq_getElem h, Option.getD_some]
def wo (bl : Bool) : Bool → List UInt8 → List UInt8
  | _, [] => []
  | p, b :: l => if wb b = true then (if bl = true then (if p = true then wo bl true l else 32 :: wo bl true l) else wo bl true l) else b :: wo bl false l
end C3
end Go.Proofs.YtglffceopijogaaDoor.Q
