import Derived.Test.YtglffceopijogaaDoorZPXx0
import Derived.Test.YtglffceopijogaaDoorZPXx59
namespace Go.Proofs.YtglffceopijogaaDoor.X
open Go.RowKit Go.Proofs.YtglffceopijogaaDoorW.PrintWords Go.Proofs.YtglffceopijogaaDoorW.PrintLast Go.Proofs.YtglffceopijogaaDoorW.PrintMore
attribute [local go_sem] max2_int min2_int max_two min_two max_three min_three max_four min_four   -- for this text's walks alone
open Go.Proofs.YtglffceopijogaaDoorW.HandWords
set_option linter.unusedVariables false
set_option linter.unusedSimpArgs false
namespace Rt
def lookr (k : Nat) (o0 o1 o2 o3 o4 o5 : Bool) (line : ByteArray) : List ByteArray → Nat → Option (Int × Bool)
  | [], _ => some (0, false)
  | s :: l, i => (redlineref03_Equal.f k s line o0 o1 o2 o3 o4 o5).bind fun b => if b = true then some ((i : Int), true) else lookr k o0 o1 o2 o3 o4 o5 line l (i + 1)
def cls (k : Nat) (o0 o1 o2 o3 o4 o5 : Bool) (l : List ByteArray) (line : ByteArray) : Option (Int × List ByteArray) := (lookr k o0 o1 o2 o3 o4 o5 line l 0).bind fun t => if t.2 = true then some (t.1, l) else some ((l.length : Int), l ++ [line])
def runr (k : Nat) (o0 o1 o2 o3 o4 o5 : Bool) : List ByteArray → List ByteArray → Option (List Int × List ByteArray)
  | l, [] => some ([], l)
  | l, s :: r => (cls k o0 o1 o2 o3 o4 o5 l s).bind fun t => (runr k o0 o1 o2 o3 o4 o5 t.2 r).bind fun u => some (t.1 :: u.1, u.2)
structure Tq (gr : Nat) (o0 o1 o2 o3 o4 o5 : Bool) (w0 : World) (l : List ByteArray) (v : Value) (W : World) : Prop where
  t : W.heap[gr]? = some (.cells #[.bool o0, .bool o1, .bool o2, .bool o3, .bool o4, .bool o5, v] 36 (0, 0))
  r : Kd.R Kd.string 9 W w0.heap.size (fun _ => True) v l
  b : Below w0.heap.size w0 W
  g : w0.heap.size ≤ gr
section
variable {gr : Nat} {o0 o1 o2 o3 o4 o5 : Bool} {w0 : World} {l : List ByteArray} {v : Value} {W : World}
end
def T4r : Bool × List (List Nat × List Nat) := (true, [([], []), ([0], [0]), ([1], [1]), ([2], [2]), ([], []), ([3, 4], [3, 4]), ([5], [5]), ([], []), ([], []), ([8], [8]), ([9], [9]), ([10], [10]), ([6, 7, 11], [6, 7, 11])])
def B4r : List Nat := [0, 1, 3, 7, 0, 31, 63, 0, 0, 256, 768, 1792, 4095]
def T11 : Bool × List (List Nat × List Nat) := (true, [([], []), ([], []), ([], []), ([2], [2]), ([3], [3]), ([4], [4]), ([5], [5]), ([0, 0], [0]), ([1, 7, 0, 1, 7], [1]), ([6, 8, 0, 1, 2, 3, 4, 5, 6, 7, 8], [6])])
def B11 : List Nat := [0, 0, 0, 4, 12, 28, 60, 1, 131, 511]
end Rt
def redlineref04_Classes.f (k : Nat) (l0 l1 : List ByteArray) (a2_0 a2_1 a2_2 a2_3 a2_4 a2_5 : Bool) : Option (List Int × List Int × Int) := if l0.length ≤ 5000000 ∧ l1.length ≤ 5000000 then (Rt.runr k a2_0 a2_1 a2_2 a2_3 a2_4 a2_5 [] l0).bind fun t => (Rt.runr k a2_0 a2_1 a2_2 a2_3 a2_4 a2_5 t.2 l1).bind fun u => some (t.1, u.1, (u.2.length : Int)) else none
end Go.Proofs.YtglffceopijogaaDoor.X
