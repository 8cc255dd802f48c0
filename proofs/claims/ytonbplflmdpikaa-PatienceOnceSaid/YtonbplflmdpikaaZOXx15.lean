import Derived.Test.YtonbplflmdpikaaZOXx0
import Derived.Test.YtonbplflmdpikaaZOXx13
import Derived.Test.YtonbplflmdpikaaZOXx14
import Derived.Laws.CopyOwn
import Derived.Deep.OwnRows
namespace Go.Proofs.Ytonbplflmdpikaa.X
open Go.RowKit Go.Proofs.YtonbplflmdpikaaW.PrintWords Go.Proofs.YtonbplflmdpikaaW.PrintLast Go.Proofs.YtonbplflmdpikaaW.PrintMore
attribute [local go_sem] max2_int min2_int max_two min_two max_three min_three max_four min_four   -- for this text's walks alone
open Go.Proofs.YtonbplflmdpikaaW.HandWords
set_option linter.unusedVariables false
set_option linter.unusedSimpArgs false
def slices_Repeat_int_int.f (l0 : List Int) (a1 : Int) : Option (List Int) :=
  if l0.length = 1 ∧ 0 ≤ a1 ∧ a1 ≤ 1000000 then some (List.replicate a1.toNat (l0.getD 0 0)) else none
theorem rp_and32 (E : Int) (h0 : 0 ≤ E) (h1 : E ≤ 1000000) : bits BinOp.and IntKind.u64 E 4294967295 = E := by
  have h := bits_and_u64_nat E.toNat 4294967295 (by omega) (by omega)
  rw [Int.toNat_of_nonneg h0, show (4294967295 : Nat) = 2 ^ 32 - 1 from rfl, Nat.and_two_pow_sub_one_eq_mod] at h
  have h2 : ((E.toNat % 2 ^ 32 : Nat) : Int) = E := by omega
  exact h.trans h2
theorem rp_mul (n : Int) (h0 : 0 ≤ n) (h1 : n ≤ 1000000) : bits_Mul.f 1 n = some (0, n) := by
  have e1 : bits BinOp.and IntKind.u64 1 4294967295 = 1 := rp_and32 1 (by omega) (by omega)
  have e0 : bits BinOp.and IntKind.u64 0 4294967295 = 0 := rp_and32 0 (by omega) (by omega)
  have d : n / 4294967296 = 0 := by omega
  have wn : IntKind.u64.wrap n = n := by rw [IntKind.wrap_u64]; omega
  have w0 : IntKind.u64.wrap 0 = 0 := by rfl
  simp only [bits_Mul.f, bits_Mul64.f, rp_and32 n h0 h1, e1, d, Option.bind]
  simp [wn, w0, d, e0]
def rp_row (x : Int) (m n : Nat) : List Value := List.replicate m (Value.int .i64 x) ++ List.replicate (n - m) (Value.int .i64 0)
theorem rp_row_len (x : Int) (m n : Nat) (h : m ≤ n) : (rp_row x m n).length = n := by simp [rp_row]; omega
theorem rp_splice (x : Int) (m q n : Nat) (h : m + q ≤ n) : splice (rp_row x m n) m (List.replicate q (Value.int .i64 x)) = rp_row x (m + q) n := by
  apply List.ext_getElem?
  intro i
  simp only [splice, rp_row, List.getElem?_append, List.getElem?_take, List.getElem?_drop, List.getElem?_replicate, List.length_replicate, List.length_take, List.length_append]
  repeat' split
  all_goals first | rfl | omega
theorem rp_made (x : Int) (n : Nat) : madeCells #[Value.int IntKind.i64 0] n = (rp_row x 0 n).toArray := by
  simp only [rp_row, List.replicate_zero, List.nil_append, Nat.sub_zero]
  apply Array.ext_getElem?
  intro i
  simp only [madeCells]
  by_cases h : i < n
  · simp [h, Nat.mod_one]
  · simp [h]
theorem rp_src {W : World} {ad : Addr} {x : Int} (m0 : Nat) (h : W.cell? (ad.add 0) = some (Value.int .i64 x)) (hm : m0 ≤ 1 := by omega) : ∀ j v, (List.replicate m0 (Value.int .i64 x))[j]? = some v → W.cell? (ad.add j) = some v := by
  intro j v hj
  rw [List.getElem?_replicate] at hj
  split at hj
  · cases hj
    obtain rfl : j = 0 := by omega
    exact h
  · cases hj
theorem rp_src2 {W : World} {g m n q t : Nat} {x : Int} (h : W.heap[g]? = some (.cells (rp_row x m n).toArray t (0, 0))) (hq : q ≤ m) : ∀ j v, (List.replicate q (Value.int .i64 x))[j]? = some v → W.cell? ((⟨g, 0, none⟩ : Addr).add j) = some v := by
  intro j v hj
  rw [List.getElem?_replicate] at hj
  split at hj
  · cases hj
    rw [add_plain, blk_cell h j]
    simp only [rp_row, List.getElem?_toArray, List.getElem?_append, List.length_replicate, List.getElem?_replicate]
    rw [if_pos (by omega), if_pos (by omega)]
  · cases hj
end Go.Proofs.Ytonbplflmdpikaa.X
