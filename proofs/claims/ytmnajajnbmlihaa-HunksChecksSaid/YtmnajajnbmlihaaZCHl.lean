/- Words for laws: what is laid out as a value of a type is of that type's kind, and how long its rows may be. -/
import Derived.Test.YtmnajajnbmlihaaZCWA
import Derived.Deep.Slices
import Derived.ChangeSame
import Derived.ChangeArms
import Derived.SizedLaws
namespace Go.Proofs.YtmnajajnbmlihaaW.LawWords
open Go.ChangeShapes Go.WideShapes Go.RowKit Go.Proofs.YtmnajajnbmlihaaW.PrintWords Go.Proofs.YtmnajajnbmlihaaW.PrintLast Go.Proofs.YtmnajajnbmlihaaW.PrintMore
set_option linter.unusedVariables false
/-- a value of type t is of the kind d, and B holds of it -/
def Opens (P : Program) {α : Type} (d : Kd α) (t : TypeId) (B : α → Prop) : Prop :=
  ∀ {H : Type} {enc : TypeId × Value → H} {W : World} {base : Nat} {spare : Nat → Bool} {held : Bool} {fuel : Nat} {cs : List Value} {x : DataW H × List MemPlace},
    DataW.trod enc P W base spare held fuel t cs = some x → (∀ n ∈ x.1.weights P t, n ≤ reachBytes) → ∃ y : α, d.K W y cs ∧ B y
theorem opens_int {P : Program} {t : TypeId} {k : IntKind} (hu : P.underlying t = some (.int k)) : Opens P (Kd.int k) t (fun y => (Lit.int k y).wf = true) := by
  intro H enc W base spare held fuel cs x h _
  obtain ⟨n, e, _, hw⟩ := DataW.trod_int hu h
  exact ⟨n, e, hw⟩
theorem opens_string {P : Program} {t : TypeId} (hu : P.underlying t = some .string) : Opens P Kd.string t (fun y => y.size ≤ 140737488351232) := by
  intro H enc W base spare held fuel cs x h hw
  obtain ⟨s, e, rfl, _⟩ := DataW.trod_string hu h
  refine ⟨s, e, ?_⟩
  have := hw s.data.toList.length (by simp [DataW.weights])
  rw [Array.length_toList] at this
  exact this
/-- the fields of a struct, from one on -/
def OpensF (P : Program) {α : Type} (d : Kd α) (fs : List Field) (off : Nat) (B : α → Prop) : Prop :=
  ∀ {H : Type} {enc : TypeId × Value → H} {W : World} {base : Nat} {spare : Nat → Bool} {held : Bool} {fuel : Nat} {cs : List Value} {xs : List (DataW H × List MemPlace)},
    xs.length = fs.length → (∀ (i : Nat) (f : Field), fs[i]? = some f → DataW.trod enc P W base spare held fuel f.type ((cs.drop f.offset).take (P.cellsOf f.type)) = xs[i]?) →
    (∀ n ∈ DataW.weightsEach P (fs.map (·.type)) (xs.map (·.1)), n ≤ reachBytes) → ∃ y : α, d.K W y ((cs.drop off).take d.sz) ∧ B y
theorem opensF_one {P : Program} {α : Type} {d : Kd α} {f : Field} {B : α → Prop} (h : Opens P d f.type B) (hs : P.cellsOf f.type = d.sz) {off : Nat} (ho : f.offset = off) : OpensF P d [f] off B := by
  intro H enc W base spare held fuel cs xs hl hx hw
  match xs, hl with
  | [x0], _ =>
    have h0 := hx 0 f rfl
    simp only [List.getElem?_cons_zero] at h0
    obtain ⟨y, hy, hb⟩ := h h0 (fun n hn => hw n (by simp only [List.map_cons, List.map_nil, DataW.weightsEach, List.append_nil]; exact hn))
    rw [hs, ho] at hy
    exact ⟨y, hy, hb⟩
theorem opensF_cons {P : Program} {α β : Type} {d : Kd α} {d2 : Kd β} {f : Field} {fs : List Field} {B : α → Prop} {B2 : β → Prop} (h : Opens P d f.type B) (hs : P.cellsOf f.type = d.sz) {off : Nat} (ho : f.offset = off)
    (h2 : OpensF P d2 fs (off + d.sz) B2) : OpensF P (Kd.pair d d2) (f :: fs) off (fun y => B y.1 ∧ B2 y.2) := by
  intro H enc W base spare held fuel cs xs hl hx hw
  match xs, hl with
  | x0 :: xs, hl =>
    have h0 := hx 0 f rfl
    simp only [List.getElem?_cons_zero] at h0
    simp only [List.map_cons, DataW.weightsEach] at hw
    obtain ⟨y, hy, hb⟩ := h h0 (fun n hn => hw n (List.mem_append_left _ hn))
    rw [hs, ho] at hy
    obtain ⟨z, hz, hb2⟩ := h2 (cs := cs) (xs := xs) (by simpa using hl) (fun i g hg => by have := hx (i + 1) g hg; simpa using this) (fun n hn => hw n (List.mem_append_right _ hn))
    refine ⟨(y, z), ⟨_, _, ?_, hy, hz⟩, hb, hb2⟩
    show (cs.drop off).take (d.sz + d2.sz) = _
    rw [List.take_add, List.drop_drop]
theorem opens_struct {P : Program} {α β : Type} {d : Kd α} {t : TypeId} {fs : Array Field} {B : α → Prop} (hu : P.underlying t = some (.struct fs)) (h : OpensF P d fs.toList 0 B) (hs : P.cellsOf t = d.sz) (f : β → α) (g : α → β) (hg : ∀ a, f (g a) = a) :
    Opens P (Kd.iso d f) t (fun y => B (f y)) := by
  intro H enc W base spare held fuel cs x hx hw
  obtain ⟨xs, n, _, rfl, hl, hlen, hf⟩ := DataW.trod_struct hu hx
  obtain ⟨y, hy, hb⟩ := h (cs := cs) (xs := xs) (by simpa using hlen) (fun i f hi => hf i f (by simpa using hi)) (fun m hm => hw m (by simp only [DataW.weights, hu]; exact hm))
  refine ⟨g y, ?_, ?_⟩
  · show d.K W (f (g y)) cs
    rw [hg]
    rw [List.drop_zero, ← hs, ← hl, List.take_length] at hy
    exact hy
  · show B (f (g y))
    rw [hg]
    exact hb
theorem weights_all {H : Type} {P : Program} {e : TypeId} : ∀ (l : List (DataW H)) (d : DataW H), d ∈ l → ∀ n ∈ d.weights P e, n ∈ DataW.weightsAll P e l
  | d0 :: l, d, hd, n, hn => by
    rw [DataW.weightsAll]
    cases hd with
    | head => exact List.mem_append_left _ hn
    | tail _ hd => exact List.mem_append_right _ (weights_all l d hd n hn)
theorem opens_slice {P : Program} {α : Type} {d : Kd α} {t e : TypeId} {B : α → Prop} (hu : P.underlying t = some (.slice e)) (h : Opens P d e B) (hs : P.cellsOf e = d.sz) {b : Nat} (hb : P.bytesOf e = b) :
    Opens P (Kd.slice e d) t (fun ys => ys.length ≤ maxLen ∧ ys.length * b ≤ 140737488351232 ∧ ∀ y ∈ ys, B y) := by
  intro H enc W base spare held fuel cs x hx hw
  rcases Go.Deep.open_slice hu hx with ⟨rfl, rfl⟩ | ⟨a, len, cap, m, n, D, Pl, rfl, hba, hl, hm, hmm, rfl, hcell⟩
  · exact ⟨[], ⟨none, 0, rfl, Nat.le_refl _, rfl, Nat.zero_le _, fun h => absurd h (Nat.lt_irrefl 0)⟩, Nat.zero_le _, by simp, fun y hy => by cases hy⟩
  · have hlm : len ≤ m := by rw [hmm]; split <;> omega
    have hwt : len * b ≤ 140737488351232 := by
      have := hw ((((List.range len).map D).length + ((List.range (m - len)).map fun j => D (len + j)).length) * P.bytesOf e) (by simp [DataW.weights, hu])
      simp only [List.length_map, List.length_range, hb] at this
      exact Nat.le_trans (Nat.mul_le_mul_right _ (by omega)) this
    have hel : ∀ i, i < len → ∃ y : α, (∃ c, c.length = d.sz ∧ d.K W y c ∧ ∀ j u, c[j]? = some u → W.cell? (a.add (i * d.sz + j)) = some u) ∧ B y := by
      intro i hi
      obtain ⟨cs', h1, h2⟩ := hcell i (by omega)
      obtain ⟨y, hy, hB⟩ := h h2 (fun n hn => hw n (by
        simp only [DataW.weights, hu]
        refine List.mem_cons_of_mem _ (List.mem_append_left _ ?_)
        exact weights_all _ (D i) (List.mem_map_of_mem (List.mem_range.2 hi)) n hn))
      refine ⟨y, ⟨cs', d.K_len hy, hy, ?_⟩, hB⟩
      intro j u hj
      rw [hs] at h1
      obtain ⟨_, hlen, hc⟩ := World.cells?_some h1
      have hjl : j < d.sz := by have := (List.getElem?_eq_some_iff.1 hj).1; omega
      have := hc j hjl
      rw [Addr.add_add] at this
      exact this.trans hj
    by_cases h0 : len = 0
    · subst h0
      exact ⟨[], ⟨some a, cap, rfl, Nat.zero_le _, rfl, Nat.zero_le _, fun h => absurd h (Nat.lt_irrefl 0)⟩, Nat.zero_le _, by simp, fun y hy => by cases hy⟩
    obtain ⟨y0, _⟩ := hel 0 (by omega)
    have hch : ∃ Y : Nat → α, ∀ i, i < len → (∃ c, c.length = d.sz ∧ d.K W (Y i) c ∧ ∀ j u, c[j]? = some u → W.cell? (a.add (i * d.sz + j)) = some u) ∧ B (Y i) := by
      classical
      refine ⟨fun i => if hi : i < len then Classical.choose (hel i hi) else y0, fun i hi => ?_⟩
      simp only [dif_pos hi]
      exact Classical.choose_spec (hel i hi)
    obtain ⟨Y, hY⟩ := hch
    refine ⟨(List.range len).map Y, ⟨some a, cap, by simp, by simpa using hl, ⟨by simp, ?_, fun hn => ⟨a, rfl, fun j p hj => ?_⟩⟩⟩, ?_, by simpa using hwt, ?_⟩
    · have : maxLen ≤ 9223372036854775807 := by decide
      simp only [List.length_map, List.length_range]
      omega
    · have hj2 : j < len := by
        have := (List.getElem?_eq_some_iff.1 hj).1
        simpa using this
      simp only [List.getElem?_map, List.getElem?_range hj2, Option.map_some, Option.some.injEq] at hj
      subst hj
      exact (hY j hj2).1
    · simp only [List.length_map, List.length_range]; omega
    · intro y hy
      rw [List.mem_map] at hy
      obtain ⟨i, hi, rfl⟩ := hy
      exact (hY i (List.mem_range.1 hi)).2
end Go.Proofs.YtmnajajnbmlihaaW.LawWords
