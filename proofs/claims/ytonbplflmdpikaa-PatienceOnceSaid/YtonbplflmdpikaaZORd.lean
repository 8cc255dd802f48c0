/- plain: what patience keeps of a piece; the program's answer -/
import Derived.Test.YtonbplflmdpikaaZORc
import Derived.Test.YtonbplflmdpikaaZOQc
import Derived.Test.YtonbplflmdpikaaZOQg
import Derived.Test.YtonbplflmdpikaaZOQh
import Derived.Test.YtonbplflmdpikaaZOXx28
import Derived.Test.YtonbplflmdpikaaZOXx30
import Derived.Test.YtonbplflmdpikaaZOXx35
namespace Go.Proofs.Ytonbplflmdpikaa.Q
set_option linter.unusedVariables false
set_option linter.unusedSimpArgs false
open Go.RowKit Go.Proofs.Ytonbplflmdpikaa.X Go.Proofs.YtonbplflmdpikaaW.PrintWords Go.Proofs.YtonbplflmdpikaaW.PrintLast Go.Proofs.YtonbplflmdpikaaW.PrintMore
namespace P7
abbrev Pr := S27
def hp_lay : Nat → Nat → Int → List Int → List Int
  | 0, _, _, T => T
  | q + 1, p, v, T => hp_lay q (p + 1) (v + 1) (T.set p v)
theorem hp_lay_len : ∀ q p v T, (hp_lay q p v T).length = T.length
  | 0, _, _, _ => rfl
  | q + 1, p, v, T => by rw [hp_lay, hp_lay_len q, List.length_set]
/-- how many are the same from a and c on -/
def fr (x y : List Int) (b d : Nat) : Nat → Nat → Nat → Nat
  | 0, _, _ => 0
  | q + 1, a, c => if a < b ∧ c < d ∧ x.getD a 0 = y.getD c 0 then fr x y b d q (a + 1) (c + 1) + 1 else 0
theorem fr_front (x y : List Int) (b d : Nat) : ∀ q a c T, pp_front x y b d q a c T = (a + fr x y b d q a c, c + fr x y b d q a c, hp_lay (fr x y b d q a c) a (c : Int) T) := by
  intro q
  induction q with
  | zero => intro a c T; simp [pp_front, fr, hp_lay]
  | succ q ih =>
    intro a c T
    rw [pp_front, fr]
    by_cases h : a < b ∧ c < d ∧ x.getD a 0 = y.getD c 0
    · rw [if_pos h, if_pos h, ih]
      rw [show a + 1 + fr x y b d q (a + 1) (c + 1) = a + (fr x y b d q (a + 1) (c + 1) + 1) from by omega, show c + 1 + fr x y b d q (a + 1) (c + 1) = c + (fr x y b d q (a + 1) (c + 1) + 1) from by omega]
      rfl
    · rw [if_neg h, if_neg h]; rfl
theorem fr_spec (x y : List Int) (b d : Nat) : ∀ q a c, a ≤ b → c ≤ d → a + fr x y b d q a c ≤ b ∧ c + fr x y b d q a c ≤ d ∧ ∀ t, t < fr x y b d q a c → x.getD (a + t) 0 = y.getD (c + t) 0 := by
  intro q
  induction q with
  | zero => intro a c h1 h2; simp only [fr]; exact ⟨by omega, by omega, by intro t ht; omega⟩
  | succ q ih =>
    intro a c h1 h2
    rw [fr]
    by_cases h : a < b ∧ c < d ∧ x.getD a 0 = y.getD c 0
    · rw [if_pos h]
      obtain ⟨i1, i2, i3⟩ := ih (a + 1) (c + 1) (by omega) (by omega)
      refine ⟨by omega, by omega, ?_⟩
      intro t ht
      cases t with
      | zero => exact h.2.2
      | succ t =>
        have := i3 t (by omega)
        rw [show a + (t + 1) = a + 1 + t from by omega, show c + (t + 1) = c + 1 + t from by omega]; exact this
    · rw [if_neg h]; exact ⟨by omega, by omega, by intro t ht; omega⟩
theorem back_spec (x y : List Int) (a c : Nat) : ∀ q b d T, a ≤ b → c ≤ d → a ≤ (pp_back x y a c q b d T).1 ∧ (pp_back x y a c q b d T).1 ≤ b ∧ c ≤ (pp_back x y a c q b d T).2.1 ∧ (pp_back x y a c q b d T).2.1 ≤ d ∧
    b - (pp_back x y a c q b d T).1 = d - (pp_back x y a c q b d T).2.1 ∧ (pp_back x y a c q b d T).2.2.length = T.length ∧ ∀ t, t < b - (pp_back x y a c q b d T).1 → x.getD ((pp_back x y a c q b d T).1 + t) 0 = y.getD ((pp_back x y a c q b d T).2.1 + t) 0 := by
  intro q
  induction q with
  | zero => intro b d T h1 h2; exact ⟨h1, Nat.le_refl _, h2, Nat.le_refl _, by show b - b = d - d; omega, rfl, by intro t ht; exfalso; have : t < b - b := ht; omega⟩
  | succ q ih =>
    intro b d T h1 h2
    rw [pp_back]
    by_cases h : a < b ∧ c < d ∧ x.getD (b - 1) 0 = y.getD (d - 1) 0
    · rw [if_pos h]
      have := ih (b - 1) (d - 1) (T.set (b - 1) ((d - 1 : Nat) : Int)) (by omega) (by omega)
      generalize pp_back x y a c q (b - 1) (d - 1) (T.set (b - 1) ((d - 1 : Nat) : Int)) = s at *
      obtain ⟨i1, i2, i3, i4, i5, i6, i7⟩ := this
      rw [List.length_set] at i6
      refine ⟨i1, by omega, i3, by omega, by omega, i6, ?_⟩
      intro t ht
      by_cases e : t < b - 1 - s.1
      · exact i7 t e
      · rw [show s.1 + t = b - 1 from by omega, show s.2.1 + t = d - 1 from by omega]; exact h.2.2
    · rw [if_neg h]; exact ⟨h1, Nat.le_refl _, h2, Nat.le_refl _, by show b - b = d - d; omega, rfl, by intro t ht; exfalso; have : t < b - b := ht; omega⟩
theorem cut_len (x : List Int) (a b : Nat) (h : b ≤ x.length) : (pp_cut x a b).length = b - a := by
  unfold pp_cut; rw [List.length_drop, List.length_take]; omega
theorem cut_mem {x : List Int} {a b : Nat} {v : Int} (h : v ∈ pp_cut x a b) : v ∈ x := List.mem_of_mem_take (List.mem_of_mem_drop h)
theorem cut_getD (x : List Int) (a b i : Nat) (h : a + i < b) : (pp_cut x a b).getD i 0 = x.getD (a + i) 0 := by
  unfold pp_cut
  simp only [List.getD_eq_getElem?_getD, List.getElem?_drop, List.getElem?_take, if_pos h]
theorem pe_ls (c : Int) : ∀ vs p T, pe_lay c p vs T = ls_lay c p vs T := by
  intro vs
  induction vs with
  | nil => intro p T; rfl
  | cons v vs ih => intro p T; rw [pe_lay, ls_lay, ih]
theorem ls_len (c : Int) : ∀ vs p T, (ls_lay c p vs T).length = T.length := by
  intro vs
  induction vs with
  | nil => intro p T; rfl
  | cons v vs ih => intro p T; rw [ls_lay, ih]; split <;> simp
/-! the rising row of lines that are there once -/
theorem rises_trans {a b c : Pr} (h : rises a b) (g : rises b c) : rises a c := ⟨by have := h.1; have := g.1; omega, by have := h.2; have := g.2; omega⟩
theorem sel_mem : ∀ ps ns want (out : List Pr), ∀ p ∈ pl_sel ps ns want out, p ∈ out ∨ p ∈ ps := by
  intro ps
  induction ps with
  | nil => intro ns want out p h; exact .inl h
  | cons q ps ih =>
    intro ns want out p h
    cases ns with
    | nil => exact .inl h
    | cons n ns =>
      rw [pl_sel] at h
      split at h
      · rcases ih _ _ _ p h with h | h
        · rw [List.mem_append, List.mem_singleton] at h
          rcases h with h | h
          · exact .inl h
          · subst h; exact .inr (.head _)
        · exact .inr (.tail _ h)
      · rcases ih _ _ _ p h with h | h
        · exact .inl h
        · exact .inr (.tail _ h)
theorem pair_snoc (out : List Pr) (p : Pr) (h : out.Pairwise rises) (hp : out = [] ∨ rises (out.getLastD z27) p) : (out ++ [p]).Pairwise rises := by
  rw [List.pairwise_append]
  refine ⟨h, List.pairwise_singleton _ _, ?_⟩
  intro a ha b hb
  rw [List.mem_singleton] at hb
  subst hb
  rcases hp with hp | hp
  · subst hp; cases ha
  · have hne : out ≠ [] := fun e => by subst e; cases ha
    have hl : out.getLastD z27 = out.getLast hne := by rw [List.getLastD_eq_getLast?, List.getLast?_eq_some_getLast hne]; rfl
    rw [hl] at hp
    rw [← List.dropLast_concat_getLast hne] at h ha
    rw [List.pairwise_append] at h
    rw [List.mem_append, List.mem_singleton] at ha
    rcases ha with ha | ha
    · exact rises_trans (h.2.2 a ha _ (.head _)) hp
    · subst ha; exact hp
theorem sel_pair : ∀ ps ns want (out : List Pr), out.Pairwise rises → (pl_sel ps ns want out).Pairwise rises := by
  intro ps
  induction ps with
  | nil => intro ns want out h; exact h
  | cons q ps ih =>
    intro ns want out h
    cases ns with
    | nil => exact h
    | cons n ns =>
      rw [pl_sel]
      split
      · rename_i hc
        exact ih _ _ _ (pair_snoc out q h hc.2)
      · exact ih _ _ _ h
theorem lrow_mem (l : List Pr) (p : Pr) (h : p ∈ lrow l) : p ∈ l := by
  rcases sel_mem _ _ _ _ p h with h | h
  · cases h
  · exact h
theorem lrow_pair (l : List Pr) : (lrow l).Pairwise rises := sel_pair _ _ _ _ List.Pairwise.nil
theorem last_of (y : List Int) (c : Int) : ∀ n, 1 ≤ pu_cnt y c n → ∃ j : Nat, j < n ∧ pu_last y c n = (j : Int) ∧ y.getD j 0 = c := by
  intro n
  induction n with
  | zero => intro h; simp [pu_cnt] at h
  | succ n ih =>
    intro h
    rw [pu_cnt] at h
    rw [pu_last]
    by_cases e : y.getD n 0 = c
    · rw [if_pos e]; exact ⟨n, by omega, rfl, e⟩
    · rw [if_neg e] at h ⊢
      obtain ⟨j, h1, h2, h3⟩ := ih (by omega)
      exact ⟨j, by omega, h2, h3⟩
/-- a pair of places of the same line -/
def IsP (x y : List Int) (p : Pr) : Prop := ∃ i j : Nat, p = ⟨(i : Int), (j : Int)⟩ ∧ i < x.length ∧ j < y.length ∧ x.getD i 0 = y.getD j 0
theorem rows_isP (x y : List Int) (p : Pr) : ∀ q i, i + q = x.length → p ∈ pu_rows x y q i → IsP x y p ∧ (i : Int) ≤ p.f0 := by
  intro q
  induction q with
  | zero => intro i hi h; cases h
  | succ q ih =>
    intro i hi h
    rw [pu_rows, List.mem_append] at h
    rcases h with h | h
    · split at h
      · rename_i hc
        rw [List.mem_singleton] at h
        obtain ⟨j, h1, h2, h3⟩ := last_of y (x.getD i 0) y.length (by omega)
        subst h
        rw [h2]
        exact ⟨⟨i, j, rfl, by omega, h1, h3.symm⟩, Int.le_refl _⟩
      · cases h
    · obtain ⟨h1, h2⟩ := ih (i + 1) (by omega) h
      exact ⟨h1, by omega⟩
/-- the row of two texts -/
def trow (x y : List Int) : List Pr := lrow (pu_rows x y x.length 0)
theorem trow_isP (x y : List Int) : ∀ p ∈ trow x y, IsP x y p := fun p h => (rows_isP x y p x.length 0 (by omega) (lrow_mem _ p h)).1
theorem trow_pair (x y : List Int) : (trow x y).Pairwise rises := lrow_pair _
theorem trow_len (x y : List Int) : (trow x y).length ≤ x.length := Nat.le_trans (lrow_len _) (rows_len x y x.length 0)
/-- the members of a row, seen from u and v on, in the piece up to B and D -/
def Ch (x y : List Int) (a c B D : Nat) : List Pr → Nat → Nat → Prop
  | [], u, v => u ≤ B ∧ v ≤ D
  | p :: ps, u, v => ∃ i j : Nat, p = ⟨(i : Int), (j : Int)⟩ ∧ u ≤ a + i ∧ v ≤ c + j ∧ a + i < B ∧ c + j < D ∧ x.getD (a + i) 0 = y.getD (c + j) 0 ∧ Ch x y a c B D ps (a + i + 1) (c + j + 1)
theorem ch_of (x y : List Int) (a c B D : Nat) (hB : B ≤ x.length) (hD : D ≤ y.length) : ∀ (ps : List Pr) (u v : Nat), u ≤ B → v ≤ D → (∀ p ∈ ps, IsP (pp_cut x a B) (pp_cut y c D) p) → ps.Pairwise rises → (∀ p ∈ ps, (u : Int) ≤ (a : Int) + p.f0 ∧ (v : Int) ≤ (c : Int) + p.f1) → Ch x y a c B D ps u v := by
  intro ps
  induction ps with
  | nil => intro u v h1 h2 _ _ _; exact ⟨h1, h2⟩
  | cons p ps ih =>
    intro u v h1 h2 hP hR hge
    obtain ⟨i, j, rfl, i1, i2, i3⟩ := hP p (.head _)
    obtain ⟨g1, g2⟩ := hge _ (.head _)
    dsimp only at g1 g2
    rw [cut_len x a B hB] at i1
    rw [cut_len y c D hD] at i2
    rw [cut_getD x a B i (by omega), cut_getD y c D j (by omega)] at i3
    rw [List.pairwise_cons] at hR
    refine ⟨i, j, rfl, by omega, by omega, by omega, by omega, i3, ?_⟩
    refine ih (a + i + 1) (c + j + 1) (by omega) (by omega) (fun q hq => hP q (.tail _ hq)) hR.2 ?_
    intro q hq
    have := hR.1 q hq
    obtain ⟨r1, r2⟩ := this
    dsimp only at r1 r2
    omega
theorem trow_ch (x y : List Int) (a c B D : Nat) (h1 : a ≤ B) (hB : B ≤ x.length) (h2 : c ≤ D) (hD : D ≤ y.length) : Ch x y a c B D (trow (pp_cut x a B) (pp_cut y c D)) a c := by
  refine ch_of x y a c B D hB hD _ a c h1 h2 (trow_isP _ _) (trow_pair _ _) ?_
  intro p hp
  obtain ⟨i, j, rfl, _⟩ := trow_isP _ _ p hp
  dsimp only
  omega
/-! what is kept -/
def pt_row (rc : Nat → Nat → Nat → Nat → List Int → List Int) (a c B D : Nat) : List Pr → Nat → Nat → List Int → List Int
  | [], u, v, T => rc u B v D T
  | p :: ps, u, v, T => pt_row rc a c B D ps (a + p.f0.toNat + 1) (c + p.f1.toNat + 1) (rc u (a + p.f0.toNat) v (c + p.f1.toNat) (T.set (a + p.f0.toNat) ((c : Int) + p.f1)))
def ptr (x y : List Int) (rc : Nat → Nat → Nat → Nat → List Int → List Int) (a c : Nat) (s : Nat × Nat × List Int) : List Int :=
  if a = s.1 ∨ c = s.2.1 then s.2.2
  else if (trow (pp_cut x a s.1) (pp_cut y c s.2.1)).length = 0 then ls_lay (c : Int) a (kp (pp_cut x a s.1) (pp_cut y c s.2.1) 0) s.2.2
  else pt_row rc a c s.1 s.2.1 (trow (pp_cut x a s.1) (pp_cut y c s.2.1)) a c s.2.2
/-- what is kept of the piece from a to b and from c to d -/
def pt (x y : List Int) : Nat → Nat → Nat → Nat → Nat → List Int → List Int
  | 0, _, _, _, _, T => T
  | f + 1, a, b, c, d, T =>
    ptr x y (pt x y f) (a + fr x y b d (b - a) a c) (c + fr x y b d (b - a) a c)
      (pp_back x y (a + fr x y b d (b - a) a c) (c + fr x y b d (b - a) a c) (b - (a + fr x y b d (b - a) a c)) b d (hp_lay (fr x y b d (b - a) a c) a (c : Int) T))
theorem row_prog (x y : List Int) (f a c B D : Nat) (hB : B ≤ x.length) (hD : D ≤ y.length) (hf : B - a ≤ f)
    (IH : ∀ a b c d T, b - a < f → a ≤ b → b ≤ x.length → c ≤ d → d ≤ y.length → T.length = x.length → (pt x y f a b c d T).length = x.length ∧ Ev (fun k => pp_piece x y k a b c d T) (pt x y f a b c d T)) :
    ∀ (ps : List Pr) (u v : Nat) (T : List Int), a ≤ u → Ch x y a c B D ps u v → (ps = [] → B - u < f) → T.length = x.length →
      (pt_row (pt x y f) a c B D ps u v T).length = x.length ∧ Ev (fun k => (pp_row (pp_piece x y k) a c B D ps u v T).bind fun q => pp_piece x y k q.1 B q.2.1 D q.2.2) (pt_row (pt x y f) a c B D ps u v T) := by
  intro ps
  induction ps with
  | nil =>
    intro u v T hu hc hp hT
    obtain ⟨c1, c2⟩ := hc
    obtain ⟨l1, p1⟩ := IH u B v D T (hp rfl) c1 hB c2 hD hT
    refine ⟨l1, ?_⟩
    simp only [pp_row, bsome]
    exact p1
  | cons p ps ih =>
    intro u v T hu hc hp hT
    obtain ⟨i, j, rfl, c1, c2, c3, c4, c5, c6⟩ := hc
    obtain ⟨l1, p1⟩ := IH u (a + i) v (c + j) (T.set (a + i) ((c : Int) + (j : Int))) (by omega) (by omega) (by omega) (by omega) (by omega) (by rw [List.length_set]; exact hT)
    obtain ⟨l2, p2⟩ := ih (a + i + 1) (c + j + 1) _ (by omega) c6 (fun _ => by omega) l1
    simp only [pt_row, pp_row, Int.toNat_natCast]
    refine ⟨l2, ?_⟩
    have g : (0 : Int) ≤ (i : Int) ∧ (0 : Int) ≤ (j : Int) ∧ (u : Int) ≤ (a : Int) + (i : Int) ∧ (v : Int) ≤ (c : Int) + (j : Int) ∧ (a : Int) + (i : Int) < (B : Int) ∧ (c : Int) + (j : Int) < (D : Int) := by omega
    simp only [if_pos g, Option.bind_assoc]
    exact Ev.bind p1 p2
section
variable (x y : List Int) (hx : x.length ≤ 600) (hy : y.length ≤ 600) (wx : ∀ v ∈ x, (Lit.int .i64 v).wf = true) (wy : ∀ v ∈ y, (Lit.int .i64 v).wf = true)
include hx hy wx wy
set_option maxHeartbeats 400000 in
theorem rest_prog (f a c b d : Nat) (T : List Int) (h1 : a ≤ b) (h2 : b ≤ x.length) (h3 : c ≤ d) (h4 : d ≤ y.length) (hT : T.length = x.length) (hf : b - a ≤ f)
    (IH : ∀ a b c d T, b - a < f → a ≤ b → b ≤ x.length → c ≤ d → d ≤ y.length → T.length = x.length → (pt x y f a b c d T).length = x.length ∧ Ev (fun k => pp_piece x y k a b c d T) (pt x y f a b c d T)) :
    (ptr x y (pt x y f) a c (b, d, T)).length = x.length ∧ Ev (fun k => pp_rest x y k (pp_piece x y k) a c (b, d, T)) (ptr x y (pt x y f) a c (b, d, T)) := by
  have lX := cut_len x a b h2
  have lY := cut_len y c d h4
  unfold pp_rest ptr
  dsimp only
  by_cases e1 : a = b
  · rw [if_pos (Or.inl e1)]
    refine ⟨hT, ?_⟩
    simp only [if_pos e1]
    exact Ev.now _
  by_cases e2 : c = d
  · rw [if_pos (Or.inr e2)]
    refine ⟨hT, ?_⟩
    simp only [if_neg e1, if_pos e2]
    exact Ev.now _
  rw [if_neg (show ¬ (a = b ∨ c = d) by rintro (e | e); exact e1 e; exact e2 e)]
  simp only [if_neg e1, if_neg e2]
  have hu := uniq_prog (pp_cut x a b) (pp_cut y c d) (by omega) (by omega) (fun v hv => wx v (cut_mem hv)) (fun v hv => wy v (cut_mem hv))
  have hul := rows_len (pp_cut x a b) (pp_cut y c d) (pp_cut x a b).length 0
  have hlong := prog_long (pu_rows (pp_cut x a b) (pp_cut y c d) (pp_cut x a b).length 0) (by omega)
  rw [show lrow (pu_rows (pp_cut x a b) (pp_cut y c d) (pp_cut x a b).length 0) = trow (pp_cut x a b) (pp_cut y c d) from rfl] at hlong
  rw [hu]
  simp only [bsome]
  have htl := trow_len (pp_cut x a b) (pp_cut y c d)
  have hch := trow_ch x y a c b d h1 h2 h3 h4
  by_cases hr : (trow (pp_cut x a b) (pp_cut y c d)).length = 0
  · rw [if_pos hr]
    refine ⟨by rw [ls_len, hT], ?_⟩
    refine Ev.bind hlong ?_
    simp only [if_pos hr]
    unfold patience_least.f
    have g : (0 ≤ (a : Int) ∧ (a : Int) ≤ (b : Int) ∧ (b : Int) ≤ (x.length : Int) ∧ 0 ≤ (c : Int) ∧ (c : Int) ≤ (d : Int) ∧ (d : Int) ≤ (y.length : Int)) ∧ (b : Int) ≤ (T.length : Int) ∧ (b : Int) ≤ 1000000 ∧ (d : Int) ≤ 1000000 := by omega
    simp only [if_pos g, Int.toNat_natCast]
    rw [show (x.take b).drop a = pp_cut x a b from rfl, show (y.take d).drop c = pp_cut y c d from rfl]
    refine Ev.bind (diff_prog (pp_cut x a b) (pp_cut y c d) (by omega) (by omega)) ?_
    rw [make_kp]
    dsimp only
    have hk := keep_mk (kp (pp_cut x a b) (pp_cut y c d) 0) (pp_cut y c d).length (by rw [kp_len]; omega) (by omega) (kp_ok _ _ _ _ _ (by omega) (by omega) (by omega))
    rw [kp_len] at hk
    have e3 : ((b : Int) - (a : Int)) = (((pp_cut x a b).length : Nat) : Int) := by omega
    have e4 : ((d : Int) - (c : Int)) = (((pp_cut y c d).length : Nat) : Int) := by omega
    rw [e3, e4]
    refine Ev.bind hk ?_
    dsimp only
    have e5 : (kp (pp_cut x a b) (pp_cut y c d) 0).length ≤ b - a := by rw [kp_len]; omega
    simp only [if_pos e5, pe_ls]
    exact Ev.now _
  · rw [if_neg hr]
    obtain ⟨l1, p1⟩ := row_prog x y f a c b d h2 h4 hf IH _ a c T (Nat.le_refl _) hch (fun e => by rw [e] at hr; exact absurd rfl hr) hT
    refine ⟨l1, ?_⟩
    refine Ev.bind hlong ?_
    simp only [if_neg hr, if_pos (show (trow (pp_cut x a b) (pp_cut y c d)).length ≤ 1000000 by omega)]
    exact p1
theorem piece_prog : ∀ f a b c d T, b - a < f → a ≤ b → b ≤ x.length → c ≤ d → d ≤ y.length → T.length = x.length → (pt x y f a b c d T).length = x.length ∧ Ev (fun k => pp_piece x y k a b c d T) (pt x y f a b c d T) := by
  intro f
  induction f with
  | zero => intro a b c d T h; omega
  | succ f ih =>
    intro a b c d T hf h1 h2 h3 h4 hT
    have e : ∀ k, pp_piece x y (k + 1) a b c d T = pp_rest x y k (pp_piece x y k) (a + fr x y b d (b - a) a c) (c + fr x y b d (b - a) a c)
        (pp_back x y (a + fr x y b d (b - a) a c) (c + fr x y b d (b - a) a c) (b - (a + fr x y b d (b - a) a c)) b d (hp_lay (fr x y b d (b - a) a c) a (c : Int) T)) := by
      intro k
      rw [pp_piece]
      try dsimp only
      rw [fr_front]
    rw [pt]
    obtain ⟨f1, f2, _⟩ := fr_spec x y b d (b - a) a c h1 h3
    generalize fr x y b d (b - a) a c = n at *
    obtain ⟨b1, b2, b3, b4, b5, b6, _⟩ := back_spec x y (a + n) (c + n) (b - (a + n)) b d (hp_lay n a (c : Int) T) (by omega) (by omega)
    rw [hp_lay_len] at b6
    generalize pp_back x y (a + n) (c + n) (b - (a + n)) b d (hp_lay n a (c : Int) T) = s at *
    obtain ⟨b', d', T'⟩ := s
    dsimp only at *
    obtain ⟨q1, q2⟩ := rest_prog x y hx hy wx wy f (a + n) (c + n) b' d' T' b1 (by omega) b3 (by omega) (by omega) (by omega) ih
    refine ⟨q1, ?_⟩
    apply Ev_unfold
    exact Ev.congr e q2
theorem diff7_prog : Ev (fun k => patience_Diff.f k x y) (make (pt x y (x.length + 1) 0 x.length 0 y.length (List.replicate x.length (-1))) y.length) := by
  unfold patience_Diff.f
  simp only [if_neg (show ¬ (x.length : Int) > 4096 by omega), if_neg (show ¬ (y.length : Int) > 4096 by omega)]
  obtain ⟨h1, h2⟩ := piece_prog x y hx hy wx wy (x.length + 1) 0 x.length 0 y.length (List.replicate x.length (-1)) (by omega) (by omega) (by omega) (by omega) (by omega) (by simp)
  refine Ev.bind h2 ?_
  rw [make_prog _ _ (by omega) (by omega)]
  exact Ev.now _
end
theorem wone (i : Nat) (h : 1 ≤ i) (h2 : i < 4611686018427387904) : wrap64 ((i : Int) - 1) = ((i - 1 : Nat) : Int) := by rw [w64 _ (by omega)]; omega
end P7
end Go.Proofs.Ytonbplflmdpikaa.Q
