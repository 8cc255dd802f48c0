import Derived.Test.YtchhelmilbheoaaDoorZRXx0
import Derived.Test.YtchhelmilbheoaaDoorZRXx41
import Derived.Test.YtchhelmilbheoaaDoorZRXx45
import Derived.Test.YtchhelmilbheoaaDoorZRXx57
import Derived.Deep.OwnRows
import Derived.Lib.Builder
import Derived.Lib.SmallJoins
import Derived.Test.YtchhelmilbheoaaDoorZRHs
namespace Go.Proofs.YtchhelmilbheoaaDoor.X
open Go.RowKit Go.Proofs.YtchhelmilbheoaaDoorW.PrintWords Go.Proofs.YtchhelmilbheoaaDoorW.PrintLast Go.Proofs.YtchhelmilbheoaaDoorW.PrintMore
attribute [local go_sem] max2_int min2_int max_two min_two max_three min_three max_four min_four   -- for this text's walks alone
open Go.Proofs.YtchhelmilbheoaaDoorW.HandWords
set_option linter.unusedVariables false
set_option linter.unusedSimpArgs false
namespace Vs
def TR1 : Bool × List (List Nat × List Nat) := (true, [([], []), ([], []), ([], []), ([2], [2]), ([1, 3], [1, 3]), ([4], [4]), ([5], [5]), ([], []), ([6, 7], [6, 7]), ([8], [8]), ([], []), ([], []), ([10, 11, 5], [10, 11]), ([9, 12], [9, 12]), ([0, 13], [0, 13]), ([14, 12, 0, 1, 2, 3, 4, 5, 6, 7, 8, 9, 10, 11, 12, 13, 14], [0, 2, 14])])
def BR1 : List Nat := [0, 0, 0, 4, 14, 30, 62, 0, 254, 510, 0, 0, 3134, 8190, 16383, 32767]
def TK1 : Bool × List (List Nat × List Nat) := (true, [([], []), ([0], [0]), ([], []), ([2], [2]), ([1, 0, 1], [1]), ([3, 4, 0, 1, 2, 3, 4], [3])])
def BK1 : List Nat := [0, 1, 0, 4, 3, 31]
def TK2 : Bool × List (List Nat × List Nat) := (true, [([], []), ([], []), ([], []), ([1, 2], [1, 2]), ([3], [3]), ([], []), ([], []), ([5, 6], [5, 6]), ([7], [7]), ([0, 4, 8], [0, 4, 8])])
def BK2 : List Nat := [0, 0, 0, 6, 14, 0, 0, 96, 224, 511]
def TS18 : Bool × List (List Nat × List Nat) := (true, [([], []), ([], []), ([], []), ([2], [2]), ([], []), ([3, 4], [3, 4]), ([1, 5], [1, 5]), ([6], [6]), ([], []), ([], []), ([9], [9]), ([], []), ([10, 11], [10, 11]), ([8, 12], [8, 12]), ([13], [13]), ([0, 7, 14], [0, 7, 14])])
def BS18 : List Nat := [0, 0, 0, 4, 0, 28, 62, 126, 0, 0, 512, 0, 3584, 7936, 16128, 32767]
def TS20 : Bool × List (List Nat × List Nat) := (true, [([], []), ([], []), ([], []), ([2], [2]), ([], []), ([3, 4], [3, 4]), ([1, 5], [1, 5]), ([6], [6]), ([0, 7], [0, 7])])
def BS20 : List Nat := [0, 0, 0, 4, 0, 28, 62, 126, 255]
def TS22 : Bool × List (List Nat × List Nat) := (true, [([], []), ([], []), ([], []), ([2], [2]), ([], []), ([3, 4], [3, 4]), ([1, 5], [1, 5]), ([6], [6]), ([0, 7], [0, 7])])
def BS22 : List Nat := [0, 0, 0, 4, 0, 28, 62, 126, 255]
def TS24 : Bool × List (List Nat × List Nat) := (true, [([], []), ([0], [0]), ([], []), ([2], [2]), ([1, 3], [1, 3]), ([], []), ([5], [5]), ([], []), ([7], [7]), ([6, 8], [6, 8]), ([4, 0, 1, 2, 3, 4], [4]), ([9, 10, 0, 1, 2, 3, 4, 5, 6, 7, 8, 9, 10], [9])])
def BS24 : List Nat := [0, 1, 0, 4, 15, 0, 32, 0, 128, 480, 31, 2047]
def shown (wd : Int) (s : ByteArray) : Option ByteArray := (lines_Bare.f s).bind fun t => (canon_Expand.f t.1).bind fun e => some (e.extract 0 (mn wd (e.size : Int)).toNat)
def line (wd : Int) (x s y : ByteArray) : ByteArray := x ++ ((⟨(Lib.repeatL (⟨#[32]⟩ : ByteArray).data.toList (wd - (x.size : Int)).toNat).toArray⟩ : ByteArray) ++ ⟨#[32]⟩ ++ s ++ ⟨#[32]⟩ ++ y)
def rowf (wd : Int) (l s r : ByteArray) : Option ByteArray := (shown wd l).bind fun x => (shown wd r).bind fun y => some ((⟨(Lib.trimRightB (line wd x s y).data.toList 32).toArray⟩ : ByteArray) ++ ⟨#[10]⟩)
theorem ne_ty {W : World} {a b : Nat} {c1 c2 : Array Value} {t1 t2 : TypeId} {f1 f2 : Nat × Nat} (h1 : W.heap[a]? = some (.cells c1 t1 f1)) (h2 : W.heap[b]? = some (.cells c2 t2 f2)) (h : t1 ≠ t2) : a ≠ b := by
  rintro rfl
  rw [h1] at h2
  injection h2 with h2
  injection h2 with _ h3 _
  exact h h3
structure Ev (gi gj gr gA gB gs gw gb : Nat) (A1 : Option Addr) (n1 c1 : Nat) (A2 : Option Addr) (n2 c2 : Nat) (wd : Int) (w0 : World) (i j : Int) (acc : List UInt8) (W : World) : Prop where
  x : Sb.Bs gb w0 W acc
  bi : W.heap[gi]? = some (.cells #[.int .i64 i] 3 (0, 0))
  bj : W.heap[gj]? = some (.cells #[.int .i64 j] 3 (0, 0))
  br : W.heap[gr]? = some (.cells #[(Value.func (.func 30) #[] #[.pointer (some ⟨gs, 0, none⟩), .pointer (some ⟨gw, 0, none⟩), .pointer (some ⟨gb, 0, none⟩)])] 69 (0, 0))
  ba : W.heap[gA]? = some (.cells #[.slice A1 n1 c1] 34 (0, 0))
  bb : W.heap[gB]? = some (.cells #[.slice A2 n2 c2] 34 (0, 0))
  bs : W.heap[gs]? = some (.cells #[(Value.func (.func 27) #[] #[.pointer (some ⟨gw, 0, none⟩)])] 44 (0, 0))
  bw : W.heap[gw]? = some (.cells #[.int .i64 wd] 3 (0, 0))
  nij : gi ≠ gj
  nwi : gw ≠ gi
  nwj : gw ≠ gj
  gi_ : w0.heap.size ≤ gi
  gj_ : w0.heap.size ≤ gj
section
variable {gi gj gr gA gB gs gw gb : Nat} {A1 : Option Addr} {n1 c1 : Nat} {A2 : Option Addr} {n2 c2 : Nat} {wd : Int} {w0 : World} {i j : Int} {acc : List UInt8} {W : World}
end
def Fk (gb gi gj : Nat) (w w' : World) : Prop := ∀ (g : Nat) (cs : Array Value) (t : TypeId), g ≠ gb → g ≠ gi → g ≠ gj → t ≠ 5 → w.heap[g]? = some (.cells cs t (0, 0)) → w'.heap[g]? = some (.cells cs t (0, 0))
def kept (wd : Int) (a b : List ByteArray) : Nat → Int → Int → Option (List UInt8)
  | 0, _, _ => some []
  | n + 1, i, j => if 0 ≤ i ∧ i < (a.length : Int) ∧ 0 ≤ j ∧ j < (b.length : Int) then (rowf wd (rdOf ByteArray.empty a i) ⟨#[32]⟩ (rdOf ByteArray.empty b j)).bind fun r => (kept wd a b n (i + 1) (j + 1)).bind fun R => some (r.data.toList ++ R) else none
def chg (wd : Int) (a b : List ByteArray) (c : S72) : Nat → Int → Option (List UInt8)
  | 0, _ => some []
  | n + 1, k => (if k ≥ c.f3 then (if 0 ≤ c.f0 + k ∧ c.f0 + k < (a.length : Int) then rowf wd (rdOf ByteArray.empty a (c.f0 + k)) ⟨#[60]⟩ ⟨#[]⟩ else none) else if k ≥ c.f1 then (if 0 ≤ c.f2 + k ∧ c.f2 + k < (b.length : Int) then rowf wd ⟨#[]⟩ ⟨#[62]⟩ (rdOf ByteArray.empty b (c.f2 + k)) else none) else (if 0 ≤ c.f0 + k ∧ c.f0 + k < (a.length : Int) ∧ 0 ≤ c.f2 + k ∧ c.f2 + k < (b.length : Int) then rowf wd (rdOf ByteArray.empty a (c.f0 + k)) ⟨#[124]⟩ (rdOf ByteArray.empty b (c.f2 + k)) else none)).bind fun r => (chg wd a b c n (k + 1)).bind fun R => some (r.data.toList ++ R)
def okc (n m i j : Int) (c : S72) : Prop := 0 ≤ i ∧ 0 ≤ j ∧ i ≤ c.f0 ∧ 0 ≤ c.f1 ∧ c.f0 + c.f1 ≤ n ∧ 0 ≤ c.f2 ∧ 0 ≤ c.f3 ∧ c.f2 + c.f3 ≤ m
instance (n m i j : Int) (c : S72) : Decidable (okc n m i j c) := by unfold okc; exact inferInstance
def run (wd : Int) (a b : List ByteArray) : List S72 → Int → Int → List UInt8 → Option (Int × Int × List UInt8)
  | [], i, j, acc => some (i, j, acc)
  | c :: l, i, j, acc => if okc (a.length : Int) (b.length : Int) i j c then (kept wd a b (c.f0 - i).toNat i j).bind fun r1 => (chg wd a b c (mx c.f1 c.f3).toNat 0).bind fun r2 => if acc.length + r1.length + r2.length ≤ 100000000000000 then run wd a b l (c.f0 + c.f1) (c.f2 + c.f3) (acc ++ r1 ++ r2) else none else none
end Vs
def views_Side.f (k : Nat) (l0 : List S72) (l1 l2 : List ByteArray) (a3 : Int) : Option (ByteArray × Int) :=
  (edits_Check.f k l0 (l1.length : Int) (l2.length : Int)).bind fun e => if e = 0 then (if a3 < 1 then some (⟨#[]⟩, 2) else if a3 > 200 then some (⟨#[]⟩, 2) else if l0.length ≤ 1000000000000 ∧ l1.length ≤ 1000000000000 ∧ l2.length ≤ 1000000000000 then (Vs.run a3 l1 l2 l0 0 0 []).bind fun t => (if 0 ≤ t.1 ∧ t.1 ≤ (l1.length : Int) then (Vs.kept a3 l1 l2 ((l1.length : Int) - t.1).toNat t.1 t.2.1).bind fun r => if t.2.2.length + r.length ≤ 100000000000000 then some (⟨(t.2.2 ++ r).toArray⟩, 0) else none else none) else none) else some (⟨#[]⟩, e)
end Go.Proofs.YtchhelmilbheoaaDoor.X
