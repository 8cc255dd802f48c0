/- plain: a group's hunk, by the program -/
import Derived.Test.YtmnajajnbmlihaaZMUb
import Derived.Test.YtmnajajnbmlihaaZMXx8
namespace Go.Proofs.Ytmnajajnbmlihaa.Q
set_option linter.unusedVariables false
set_option linter.unusedSimpArgs false
open Go.RowKit Go.Proofs.Ytmnajajnbmlihaa.X Go.Proofs.YtmnajajnbmlihaaW.PrintWords Go.Proofs.YtmnajajnbmlihaaW.PrintLast Go.Proofs.YtmnajajnbmlihaaW.PrintMore
namespace H11
abbrev Mk := S46
def lay (sign : Int) (xs : List ByteArray) : List Mk := xs.map fun s => ⟨sign, s⟩
/-- how many lines are not of this sign -/
def cnt (s : Int) (ms : List Mk) : Int := ((ms.filter fun m => decide (m.f0 ≠ s)).length : Int)
theorem cnt_app (s : Int) (p q : List Mk) : cnt s (p ++ q) = cnt s p + cnt s q := by unfold cnt; rw [List.filter_append, List.length_append]; omega
theorem cnt_le (s : Int) (p : List Mk) : 0 ≤ cnt s p ∧ cnt s p ≤ (p.length : Int) := by
  unfold cnt
  have := List.length_filter_le (fun m : Mk => decide (m.f0 ≠ s)) p
  omega
theorem cnt_one (s : Int) (m : Mk) : cnt s [m] = if m.f0 = s then 0 else 1 := by
  unfold cnt
  by_cases h : m.f0 = s
  · simp [h]
  · simp [h]
theorem lay_len (sign : Int) (xs : List ByteArray) : (lay sign xs).length = xs.length := by simp [lay]
theorem lay_eq (sign : Int) (xs : List ByteArray) : ∀ (ms : List Mk), (ms.length : Int) + xs.length ≤ 1000000000000000 → ho_lay sign xs (cnt 43 ms) (cnt 45 ms) ms = (cnt 43 (ms ++ lay sign xs), cnt 45 (ms ++ lay sign xs), ms ++ lay sign xs) := by
  induction xs with
  | nil =>
    intro ms _
    have e : ms ++ lay sign [] = ms := by rw [lay, List.map_nil, List.append_nil]
    rw [e, ho_lay]
  | cons s xs ih =>
    intro ms h
    have h1 := cnt_le 43 ms
    have h2 := cnt_le 45 ms
    simp only [List.length_cons] at h
    have e1 : (if sign = 43 then cnt 43 ms else wrap64 (cnt 43 ms + 1)) = cnt 43 (ms ++ [⟨sign, s⟩]) := by
      rw [cnt_app, cnt_one]
      by_cases e : sign = 43
      · rw [if_pos e, if_pos e]; omega
      · rw [if_neg e, if_neg e, w64 _ (by omega)]
    have e2 : (if sign = 45 then cnt 45 ms else wrap64 (cnt 45 ms + 1)) = cnt 45 (ms ++ [⟨sign, s⟩]) := by
      rw [cnt_app, cnt_one]
      by_cases e : sign = 45
      · rw [if_pos e, if_pos e]; omega
      · rw [if_neg e, if_neg e, w64 _ (by omega)]
    rw [ho_lay, e1, e2, ih (ms ++ [(⟨sign, s⟩ : Mk)]) (by rw [List.length_append, List.length_singleton]; omega)]
    simp only [lay, List.map_cons, List.append_assoc, List.singleton_append]
theorem on_eq (sign : Int) (xs : List ByteArray) (ms : List Mk) (h : (ms.length : Int) + xs.length ≤ 1000000000000000) : ho_on sign xs (cnt 43 ms, cnt 45 ms, ms) = (cnt 43 (ms ++ lay sign xs), cnt 45 (ms ++ lay sign xs), ms ++ lay sign xs) := lay_eq sign xs ms h
/-- a group's lines, from a place of the old text on, as far as its last change -/
def lns (a b : List ByteArray) : Int → List Ch → List Mk
  | _, [] => []
  | at_, c :: g => lay 32 (ho_cut a at_ c.f0) ++ (lay 45 (ho_cut a c.f0 (c.f0 + c.f1)) ++ (lay 43 (ho_cut b c.f2 (c.f2 + c.f3)) ++ lns a b (c.f0 + c.f1) g))
def endof : Int → List Ch → Int
  | at_, [] => at_
  | _, c :: g => endof (c.f0 + c.f1) g
def endb : Int → List Ch → Int
  | bt, [] => bt
  | _, c :: g => endb (c.f2 + c.f3) g
theorem end_le {n m : Int} : ∀ (g : List Ch) (a b : Int), Chn n m a b g → a ≤ endof a g ∧ b ≤ endb b g ∧ (a ≤ n → endof a g ≤ n) ∧ (b ≤ m → endb b g ≤ m) ∧ (a ≤ 5000000000 → endof a g ≤ 5000000000) ∧ (b ≤ 5000000000 → endb b g ≤ 5000000000)
  | [], a, b, _ => ⟨Int.le_refl _, Int.le_refl _, id, id, id, id⟩
  | c :: g, a, b, h => by
    obtain ⟨h0, h1, h2, h3, h4, h5, h6, h7, h8⟩ := h
    obtain ⟨i1, i2, i3, i4, i5, i6⟩ := end_le g _ _ h8
    unfold Small at h0 h1 h2 h3
    simp only [endof, endb]
    exact ⟨by omega, by omega, fun _ => i3 h6, fun _ => i4 h7, fun _ => i5 (by omega), fun _ => i6 (by omega)⟩
theorem go_eq (a b : List ByteArray) : ∀ (g : List Ch) (at_ bt : Int) (ms : List Mk), 0 ≤ at_ → 0 ≤ bt → Chn a.length b.length at_ bt g → (ms.length : Int) ≤ at_ + bt → at_ ≤ 5000000000 → bt ≤ 5000000000 →
    ho_go a b g at_ (cnt 43 ms) (cnt 45 ms) ms = some (endof at_ g, cnt 43 (ms ++ lns a b at_ g), cnt 45 (ms ++ lns a b at_ g), ms ++ lns a b at_ g) ∧ ((ms ++ lns a b at_ g).length : Int) ≤ endof at_ g + endb bt g
  | [], at_, bt, ms, h1, h2, hc, hl, _, _ => by
    have e : ms ++ lns a b at_ [] = ms := by rw [lns, List.append_nil]
    rw [e, ho_go, endof, endb]
    exact ⟨rfl, hl⟩
  | c :: g, at_, bt, ms, h1, h2, hc, hl, k1, k2 => by
    obtain ⟨q0, q1, q2, q3, q4, q5, q6, q7, q8⟩ := hc
    unfold Small at q0 q1 q2 q3
    have e1 := ho_cut_len a at_ c.f0 h1 q4 (by omega)
    have e2 := ho_cut_len a c.f0 (c.f0 + c.f1) (by omega) (by omega) q6
    have e3 := ho_cut_len b c.f2 (c.f2 + c.f3) (by omega) (by omega) q7
    have s1 := on_eq 32 (ho_cut a at_ c.f0) ms (by omega)
    have s2 := on_eq 45 (ho_cut a c.f0 (c.f0 + c.f1)) (ms ++ lay 32 (ho_cut a at_ c.f0)) (by rw [List.length_append, lay_len]; omega)
    have s3 := on_eq 43 (ho_cut b c.f2 (c.f2 + c.f3)) ((ms ++ lay 32 (ho_cut a at_ c.f0)) ++ lay 45 (ho_cut a c.f0 (c.f0 + c.f1))) (by rw [List.length_append, List.length_append, lay_len, lay_len]; omega)
    obtain ⟨M, hM⟩ : ∃ M, ((ms ++ lay 32 (ho_cut a at_ c.f0)) ++ lay 45 (ho_cut a c.f0 (c.f0 + c.f1))) ++ lay 43 (ho_cut b c.f2 (c.f2 + c.f3)) = M := ⟨_, rfl⟩
    have hst : ho_step a b c at_ (cnt 43 ms) (cnt 45 ms) ms = (cnt 43 M, cnt 45 M, M) := by unfold ho_step; rw [s1, s2, s3, hM]
    have hlen : (M.length : Int) ≤ (c.f0 + c.f1) + (c.f2 + c.f3) := by
      rw [← hM, List.length_append, List.length_append, List.length_append, lay_len, lay_len, lay_len]; omega
    obtain ⟨i1, i2⟩ := go_eq a b g (c.f0 + c.f1) (c.f2 + c.f3) M (by omega) (by omega) q8 hlen (by omega) (by omega)
    have hl2 : M ++ lns a b (c.f0 + c.f1) g = ms ++ lns a b at_ (c :: g) := by rw [← hM]; simp only [lns, List.append_assoc]
    rw [hl2] at i1 i2
    refine ⟨?_, i2⟩
    rw [ho_go, if_pos (by omega), hst]
    exact i1
/-- a group's hunk -/
def hunk (a b : List ByteArray) (ctx : Int) (g : List Ch) : Int × Int × Int × Int × List Mk :=
  let c := rd_T35 g 0
  let M := lns a b (c.f0 - mn ctx c.f0) g ++ lay 32 (ho_cut a (endof (c.f0 - mn ctx c.f0) g) (mn (a.length : Int) (endof (c.f0 - mn ctx c.f0) g + ctx)))
  (c.f0 - mn ctx c.f0 + (if cnt 43 M > 0 then 1 else 0), cnt 43 M, c.f2 - mn ctx c.f0 + (if cnt 45 M > 0 then 1 else 0), cnt 45 M, M)
theorem chn_weak {n m a b a' b' : Int} {c : Ch} {g : List Ch} (h : Chn n m a b (c :: g)) (h1 : a' ≤ c.f0) (h2 : b' ≤ c.f2) : Chn n m a' b' (c :: g) := by
  obtain ⟨q0, q1, q2, q3, q4, q5, q6, q7, q8⟩ := h
  exact ⟨q0, q1, q2, q3, h1, h2, q6, q7, q8⟩
theorem one_prog (a b : List ByteArray) (ctx : Int) (hctx : 0 ≤ ctx ∧ ctx ≤ 100) (g : List Ch) (hg : g ≠ []) (hgl : g.length ≤ 1000000000000) (A B : Int) (hc : Chn a.length b.length A B g) : hunks_one.f g a b ctx = some (hunk a b ctx g) := by
  cases g with
  | nil => exact absurd rfl hg
  | cons c g =>
    have e0 : rd_T35 (c :: g) 0 = c := rdCh_nat (c :: g) 0
    have hc2 := hc
    obtain ⟨q0, q1, q2, q3, q4, q5, q6, q7, q8⟩ := hc2
    unfold Small at q0 q1 q2 q3
    unfold hunks_one.f hunk
    rw [e0]
    dsimp only
    obtain ⟨m, hm⟩ : ∃ m, mn ctx c.f0 = m := ⟨_, rfl⟩
    have hm1 : 0 ≤ m ∧ m ≤ c.f0 ∧ m ≤ ctx := by rw [← hm]; unfold mn; split <;> omega
    rw [hm, if_pos (by simp only [List.length_cons] at hgl ⊢; omega)]
    have hch := chn_weak hc (a' := c.f0 - m) (b' := 0) (by omega) (by omega)
    obtain ⟨i1, i2⟩ := go_eq a b (c :: g) (c.f0 - m) 0 [] (by omega) (by omega) hch (by simp; omega) (by omega) (by omega)
    obtain ⟨x1, x2, x3, x4, x5, x6⟩ := end_le (c :: g) _ _ hch
    simp only [List.nil_append] at i1 i2
    have z : cnt 43 [] = 0 ∧ cnt 45 [] = 0 := ⟨rfl, rfl⟩
    rw [z.1, z.2] at i1
    rw [i1, bsome]
    dsimp only
    obtain ⟨E, hE⟩ : ∃ E, endof (c.f0 - m) (c :: g) = E := ⟨_, rfl⟩
    obtain ⟨F, hF⟩ : ∃ F, lns a b (c.f0 - m) (c :: g) = F := ⟨_, rfl⟩
    have y3 := x3 (by omega)
    have y5 := x5 (by omega)
    have y6 := x6 (by omega)
    rw [hE] at y3 y5 x1 i2
    rw [hF] at i2
    rw [hE, hF, if_pos (by omega)]
    have he2 : E ≤ mn (a.length : Int) (E + ctx) ∧ mn (a.length : Int) (E + ctx) ≤ (a.length : Int) ∧ mn (a.length : Int) (E + ctx) ≤ E + ctx := by unfold mn; split <;> omega
    have e1 := ho_cut_len a E (mn (a.length : Int) (E + ctx)) (by omega) he2.1 he2.2.1
    have s1 := on_eq 32 (ho_cut a E (mn (a.length : Int) (E + ctx))) F (by omega)
    rw [s1]
    dsimp only
    obtain ⟨M, hM⟩ : ∃ M, F ++ lay 32 (ho_cut a E (mn (a.length : Int) (E + ctx))) = M := ⟨_, rfl⟩
    have hml : (M.length : Int) ≤ 20000000000 := by rw [← hM, List.length_append, lay_len]; omega
    rw [hM]
    have k1 := cnt_le 43 M
    have k2 := cnt_le 45 M
    have m1 : mn 1 (cnt 43 M) = if cnt 43 M > 0 then 1 else 0 := by unfold mn; split <;> split <;> omega
    have m2 : mn 1 (cnt 45 M) = if cnt 45 M > 0 then 1 else 0 := by unfold mn; split <;> split <;> omega
    rw [m1, m2, w64 (c.f0 - m + _) (by split <;> omega), w64 (c.f2 - m + _) (by split <;> omega)]
end H11
end Go.Proofs.Ytmnajajnbmlihaa.Q
