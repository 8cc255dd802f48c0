/- Words for laws where what is read is small: what is laid out as a value of a type is of that type's kind, and how long its rows and strings may be. -/
import Derived.Test.YtchhelmilbheoaaDoorZAWA
import Derived.Test.YtchhelmilbheoaaDoorRows
import Derived.Deep.Slices
import Derived.ChangeSame
import Derived.ChangeArms
import Derived.SizedLaws
namespace Go.Proofs.YtchhelmilbheoaaDoorW.BulkWords
open Go.ChangeShapes Go.WideShapes Go.RowKit Go.Proofs.YtchhelmilbheoaaDoor Go.Proofs.YtchhelmilbheoaaDoorW.PrintWords Go.Proofs.YtchhelmilbheoaaDoorW.PrintLast Go.Proofs.YtchhelmilbheoaaDoorW.PrintMore
set_option linter.unusedVariables false
theorem one_le {H : Type} (d : DataW H) : 1 ≤ Rows.uptoBulk d := by
  cases d with
  | lit l => cases l <;> simp [Rows.uptoBulk]
  | nil => simp [Rows.uptoBulk]
  | ptr d => simp [Rows.uptoBulk]
  | slice elems spare => simp [Rows.uptoBulk]
  | agg parts => simp [Rows.uptoBulk]
  | iface t d => simp [Rows.uptoBulk]
  | map entries => simp [Rows.uptoBulk]
  | held h => simp [Rows.uptoBulk]
theorem part_le {H : Type} {d : DataW H} {l : List (DataW H)} (h : d ∈ l) : Rows.uptoBulk d ≤ Rows.uptoBulkAll l := by
  induction l with
  | nil => cases h
  | cons x r ih =>
    simp only [Rows.uptoBulkAll]
    cases List.mem_cons.1 h with
    | inl e => subst e; omega
    | inr e => have := ih e; omega
theorem length_le {H : Type} (l : List (DataW H)) : l.length ≤ Rows.uptoBulkAll l := by
  induction l with
  | nil => simp [Rows.uptoBulkAll]
  | cons x r ih => have := one_le x; simp only [Rows.uptoBulkAll, List.length_cons]; omega
/-- a value of type t is of the kind d, and B holds of it, where it is small -/
def Opens (P : Program) {α : Type} (d : Kd α) (t : TypeId) (B : α → Prop) : Prop :=
  ∀ {H : Type} {enc : TypeId × Value → H} {W : World} {base : Nat} {spare : Nat → Bool} {held : Bool} {fuel : Nat} {cs : List Value} {x : DataW H × List MemPlace},
    DataW.trod enc P W base spare held fuel t cs = some x → Rows.uptoBulk x.1 ≤ 1048576 → ∃ y : α, d.K W y cs ∧ B y
theorem opens_int {P : Program} {t : TypeId} {k : IntKind} (hu : P.underlying t = some (.int k)) : Opens P (Kd.int k) t (fun y => (Lit.int k y).wf = true) := by
  intro H enc W base spare held fuel cs x h _
  obtain ⟨n, e, _, hw⟩ := DataW.trod_int hu h
  exact ⟨n, e, hw⟩
theorem opens_string {P : Program} {t : TypeId} (hu : P.underlying t = some .string) : Opens P Kd.string t (fun y => y.size ≤ 1048576) := by
  intro H enc W base spare held fuel cs x h hw
  obtain ⟨s, e, rfl, _⟩ := DataW.trod_string hu h
  refine ⟨s, e, ?_⟩
  have h2 : s.data.toList.length + 1 ≤ 1048576 := by simpa [Rows.uptoBulk] using hw
  rw [Array.length_toList] at h2
  exact Nat.le_of_succ_le h2
def OpensF (P : Program) {α : Type} (d : Kd α) (fs : List Field) (off : Nat) (B : α → Prop) : Prop :=
  ∀ {H : Type} {enc : TypeId × Value → H} {W : World} {base : Nat} {spare : Nat → Bool} {held : Bool} {fuel : Nat} {cs : List Value} {xs : List (DataW H × List MemPlace)},
    xs.length = fs.length → (∀ (i : Nat) (f : Field), fs[i]? = some f → DataW.trod enc P W base spare held fuel f.type ((cs.drop f.offset).take (P.cellsOf f.type)) = xs[i]?) →
    (∀ x ∈ xs, Rows.uptoBulk x.1 ≤ 1048576) → ∃ y : α, d.K W y ((cs.drop off).take d.sz) ∧ B y
theorem opensF_one {P : Program} {α : Type} {d : Kd α} {f : Field} {B : α → Prop} (h : Opens P d f.type B) (hs : P.cellsOf f.type = d.sz) {off : Nat} (ho : f.offset = off) : OpensF P d [f] off B := by
  intro H enc W base spare held fuel cs xs hl hx hw
  match xs, hl with
  | [x0], _ =>
    have h0 := hx 0 f rfl
    simp only [List.getElem?_cons_zero] at h0
    obtain ⟨y, hy, hb⟩ := h h0 (hw x0 (List.mem_cons_self ..))
    rw [hs, ho] at hy
    exact ⟨y, hy, hb⟩
theorem opensF_cons {P : Program} {α β : Type} {d : Kd α} {d2 : Kd β} {f : Field} {fs : List Field} {B : α → Prop} {B2 : β → Prop} (h : Opens P d f.type B) (hs : P.cellsOf f.type = d.sz) {off : Nat} (ho : f.offset = off)
    (h2 : OpensF P d2 fs (off + d.sz) B2) : OpensF P (Kd.pair d d2) (f :: fs) off (fun y => B y.1 ∧ B2 y.2) := by
  intro H enc W base spare held fuel cs xs hl hx hw
  match xs, hl with
  | x0 :: xs, hl =>
    have h0 := hx 0 f rfl
    simp only [List.getElem?_cons_zero] at h0
    obtain ⟨y, hy, hb⟩ := h h0 (hw x0 (List.mem_cons_self ..))
    rw [hs, ho] at hy
    obtain ⟨z, hz, hb2⟩ := h2 (cs := cs) (xs := xs) (by simpa using hl) (fun i g hg => by have := hx (i + 1) g hg; simpa using this) (fun x hx => hw x (List.mem_cons_of_mem _ hx))
    refine ⟨(y, z), ⟨_, _, ?_, hy, hz⟩, hb, hb2⟩
    show (cs.drop off).take (d.sz + d2.sz) = _
    rw [List.take_add, List.drop_drop]
theorem opens_struct {P : Program} {α β : Type} {d : Kd α} {t : TypeId} {fs : Array Field} {B : α → Prop} (hu : P.underlying t = some (.struct fs)) (h : OpensF P d fs.toList 0 B) (hs : P.cellsOf t = d.sz) (f : β → α) (g : α → β) (hg : ∀ a, f (g a) = a) :
    Opens P (Kd.iso d f) t (fun y => B (f y)) := by
  intro H enc W base spare held fuel cs x hx hw
  obtain ⟨xs, n, _, rfl, hl, hlen, hf⟩ := DataW.trod_struct hu hx
  obtain ⟨y, hy, hb⟩ := h (cs := cs) (xs := xs) (by simpa using hlen) (fun i f hi => hf i f (by simpa using hi)) (fun m hm => by
    have h1 : Rows.uptoBulkAll (xs.map (·.1)) ≤ Rows.uptoBulk (DataW.agg (xs.map (·.1))) := by simp only [Rows.uptoBulk]; omega
    exact Nat.le_trans (part_le (List.mem_map_of_mem hm)) (Nat.le_trans h1 hw))
  refine ⟨g y, ?_, ?_⟩
  · show d.K W (f (g y)) cs
    rw [hg]
    rw [List.drop_zero, ← hs, ← hl, List.take_length] at hy
    exact hy
  · show B (f (g y))
    rw [hg]
    exact hb
theorem opens_slice {P : Program} {α : Type} {d : Kd α} {t e : TypeId} {B : α → Prop} (hu : P.underlying t = some (.slice e)) (h : Opens P d e B) (hs : P.cellsOf e = d.sz) :
    Opens P (Kd.slice e d) t (fun ys => ys.length ≤ maxLen ∧ ys.length ≤ 1048576 ∧ ∀ y ∈ ys, B y) := by
  intro H enc W base spare held fuel cs x hx hw
  rcases Go.Deep.open_slice hu hx with ⟨rfl, rfl⟩ | ⟨a, len, cap, m, n, D, Pl, rfl, hba, hl, hm, hmm, rfl, hcell⟩
  · exact ⟨[], ⟨none, 0, rfl, Nat.le_refl _, rfl, Nat.zero_le _, fun h => absurd h (Nat.lt_irrefl 0)⟩, Nat.zero_le _, by simp, fun y hy => by cases hy⟩
  · have hlm : len ≤ m := by rw [hmm]; split <;> omega
    have hel0 : Rows.uptoBulkAll ((List.range len).map D) ≤ 1048576 := by
      refine Nat.le_trans ?_ hw
      simp only [Rows.uptoBulk]
      omega
    have hwt : len ≤ 1048576 := by
      have := length_le ((List.range len).map D)
      rw [List.length_map, List.length_range] at this
      omega
    have hel : ∀ i, i < len → ∃ y : α, (∃ c, c.length = d.sz ∧ d.K W y c ∧ ∀ j u, c[j]? = some u → W.cell? (a.add (i * d.sz + j)) = some u) ∧ B y := by
      intro i hi
      obtain ⟨cs', h1, h2⟩ := hcell i (by omega)
      obtain ⟨y, hy, hB⟩ := h h2 (Nat.le_trans (part_le (d := D i) (l := (List.range len).map D) (List.mem_map_of_mem (List.mem_range.2 hi))) hel0)
      refine ⟨y, ⟨cs', d.K_len hy, hy, ?_⟩, hB⟩
      intro j u hj
      rw [hs] at h1
      obtain ⟨_, hlen, hc⟩ := World.cells?_some h1
      have hjl : j < d.sz := by have := (List.getElem?_eq_some_iff.1 hj).1; omega
      have := hc j hjl
      rw [Addr.add_add] at this
      exact this.trans hj
    by_cases h0 : len = 0
    · subst h0
      exact ⟨[], ⟨some a, cap, rfl, Nat.zero_le _, rfl, Nat.zero_le _, fun h => absurd h (Nat.lt_irrefl 0)⟩, Nat.zero_le _, by simp, fun y hy => by cases hy⟩
    obtain ⟨y0, _⟩ := hel 0 (by omega)
    have hch : ∃ Y : Nat → α, ∀ i, i < len → (∃ c, c.length = d.sz ∧ d.K W (Y i) c ∧ ∀ j u, c[j]? = some u → W.cell? (a.add (i * d.sz + j)) = some u) ∧ B (Y i) := by
      classical
      refine ⟨fun i => if hi : i < len then Classical.choose (hel i hi) else y0, fun i hi => ?_⟩
      simp only [dif_pos hi]
      exact Classical.choose_spec (hel i hi)
    obtain ⟨Y, hY⟩ := hch
    refine ⟨(List.range len).map Y, ⟨some a, cap, by simp, by simpa using hl, ⟨by simp, ?_, fun hn => ⟨a, rfl, fun j p hj => ?_⟩⟩⟩, ?_, by simpa using hwt, ?_⟩
    · have : maxLen ≤ 9223372036854775807 := by decide
      simp only [List.length_map, List.length_range]
      omega
    · have hj2 : j < len := by
        have := (List.getElem?_eq_some_iff.1 hj).1
        simpa using this
      simp only [List.getElem?_map, List.getElem?_range hj2, Option.map_some, Option.some.injEq] at hj
      subst hj
      exact (hY j hj2).1
    · simp only [List.length_map, List.length_range]; omega
    · intro y hy
      rw [List.mem_map] at hy
      obtain ⟨i, hi, rfl⟩ := hy
      exact (hY i (List.mem_range.1 hi)).2
end Go.Proofs.YtchhelmilbheoaaDoorW.BulkWords
