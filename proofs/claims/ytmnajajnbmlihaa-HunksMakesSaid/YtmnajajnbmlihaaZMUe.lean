/- plain: the hunks of an edit script: the program's answer and the reference's -/
import Derived.Test.YtmnajajnbmlihaaZMUd
import Derived.Test.YtmnajajnbmlihaaZMXx18
import Derived.Test.YtmnajajnbmlihaaZMXx19
import Derived.Test.YtmnajajnbmlihaaZMXx20
import Derived.Test.YtmnajajnbmlihaaZMXx21
import Derived.Test.YtmnajajnbmlihaaZMXx22
import Derived.Test.YtmnajajnbmlihaaZMXx9
namespace Go.Proofs.Ytmnajajnbmlihaa.Q
set_option linter.unusedVariables false
set_option linter.unusedSimpArgs false
open Go.RowKit Go.Proofs.Ytmnajajnbmlihaa.X Go.Proofs.YtmnajajnbmlihaaW.PrintWords Go.Proofs.YtmnajajnbmlihaaW.PrintLast Go.Proofs.YtmnajajnbmlihaaW.PrintMore
namespace H11
abbrev Hk := S39
abbrev zh : Hk := z39
theorem rdHk_nat (l : List Hk) (i : Nat) : rd_T39 l (i : Int) = l.getD i zh := by
  have h : ∀ j : Int, j = (i : Int) → rd_T39 l j = l.getD i zh := by
    intro j h
    subst h
    rfl
  exact h _ rfl
theorem rdG_nat (l : List (List Ch)) (i : Nat) : rd_L2 l (i : Int) = l.getD i [] := by
  have h : ∀ j : Int, j = (i : Int) → rd_L2 l j = l.getD i [] := by
    intro j h
    subst h
    rfl
  exact h _ rfl
theorem dropG (l : List (List Ch)) (i : Nat) (h : i < l.length) : l.drop i = l.getD i [] :: l.drop (i + 1) := by
  rw [List.drop_eq_getElem_cons h]; simp [List.getD_eq_getElem?_getD, h]
theorem getG_mem (l : List (List Ch)) (i : Nat) (h : i < l.length) : l.getD i [] ∈ l := by
  rw [List.getD_eq_getElem?_getD, List.getElem?_eq_getElem h]
  exact List.getElem_mem h
theorem getH_mem (l : List Hk) (i : Nat) (h : i < l.length) : l.getD i zh ∈ l := by
  rw [List.getD_eq_getElem?_getD, List.getElem?_eq_getElem h]
  exact List.getElem_mem h
theorem chk_len {n m : Int} : ∀ (l : List Ch) (fst : Bool) (a b : Int), chk n m l fst a b = true → a + b ≤ 8589934588 → a + b + (l.length : Int) ≤ 8589934589
  | [], fst, a, b, _, h => by simp only [List.length_nil]; omega
  | c :: l, fst, a, b, h, hab => by
    rw [chk, Bool.and_eq_true] at h
    obtain ⟨s0, s1, s2, s3, q0, q1, _, q2⟩ := of_decide_eq_true h.1
    unfold Small at s0 s1 s2 s3
    have := chk_len l false _ _ h.2 (by omega)
    simp only [List.length_cons]
    omega
theorem hunk_len (a b : List ByteArray) (ctx : Int) (hctx : 0 ≤ ctx ∧ ctx ≤ 100) (g : List Ch) (hg : g ≠ []) (A B : Int) (hc : Chn a.length b.length A B g) : (hunk a b ctx g).2.2.2.2.length ≤ 20000000000 := by
  have hlen : 0 < g.length := List.length_pos_iff.mpr hg
  have e0 : rd_T35 g 0 = g.getD 0 zc := rdCh_nat g 0
  obtain ⟨c, hcc⟩ : ∃ c, g.getD 0 zc = c := ⟨_, rfl⟩
  obtain ⟨q0, q1, q2, q3⟩ := chn_at g A B c hc (hcc ▸ get_mem g 0 hlen)
  unfold Small at q0 q2
  obtain ⟨m, hm⟩ : ∃ m, mn ctx c.f0 = m := ⟨_, rfl⟩
  have hm1 : 0 ≤ m ∧ m ≤ c.f0 ∧ m ≤ ctx := by rw [← hm]; unfold mn; split <;> omega
  have hc2 := hc
  rw [← List.drop_zero (l := g), dropC g 0 hlen, hcc] at hc2
  have hch : Chn a.length b.length (c.f0 - m) 0 g := by
    rw [← List.drop_zero (l := g), dropC g 0 hlen, hcc]
    exact chn_weak hc2 (by omega) (by omega)
  have hn : c.f0 ≤ (a.length : Int) := by
    have h1 := hc2.2.2.2.2.2.2.1
    have h2 := hc2.2.1.1
    omega
  unfold hunk
  rw [e0, hcc]
  dsimp only
  rw [hm]
  obtain ⟨x1, x2, x3, x4, x5, x6⟩ := end_le g _ _ hch
  obtain ⟨i1, i2⟩ := go_eq a b g (c.f0 - m) 0 [] (by omega) (by omega) hch (by simp; omega) (by omega) (by omega)
  rw [List.nil_append] at i2
  obtain ⟨E, hE⟩ : ∃ E, endof (c.f0 - m) g = E := ⟨_, rfl⟩
  obtain ⟨F, hF⟩ : ∃ F, lns a b (c.f0 - m) g = F := ⟨_, rfl⟩
  have y3 := x3 (by omega)
  have y5 := x5 (by omega)
  have y6 := x6 (by omega)
  rw [hE] at y3 y5 x1 i2 ⊢
  rw [hF] at i2 ⊢
  have he2 : E ≤ mn (a.length : Int) (E + ctx) ∧ mn (a.length : Int) (E + ctx) ≤ (a.length : Int) ∧ mn (a.length : Int) (E + ctx) ≤ E + ctx := by unfold mn; split <;> omega
  have e1 := ho_cut_len a E (mn (a.length : Int) (E + ctx)) (by omega) he2.1 he2.2.1
  rw [List.length_append, lay_len]
  omega
def hkof (a b : List ByteArray) (ctx : Int) (g : List Ch) : Hk := ⟨(hunk a b ctx g).1, (hunk a b ctx g).2.1, (hunk a b ctx g).2.2.1, (hunk a b ctx g).2.2.2.1, (hunk a b ctx g).2.2.2.2⟩
section
variable (a b : List ByteArray) (ctx : Int) (hctx : 0 ≤ ctx ∧ ctx ≤ 100) (G : List (List Ch)) (hG : ∀ g ∈ G, g ≠ [] ∧ g.length ≤ 1000000000000 ∧ ∃ A B, Chn a.length b.length A B g) (hGl : G.length ≤ 1000000000000)
include hctx hG hGl
theorem make_prog : ∀ (d i : Nat) (out : List Hk), i + d = G.length → out.length = i → Ev (fun k => hunks_Make.l0 k a b ctx out G (G.length : Int) (i : Int)) (out ++ (G.drop i).map (hkof a b ctx), 0) := by
  intro d
  induction d with
  | zero =>
    intro i out hi ho
    apply Ev_unfold
    have e : out ++ (G.drop i).map (hkof a b ctx) = out := by rw [List.drop_eq_nil_of_le (show G.length ≤ i by omega), List.map_nil, List.append_nil]
    rw [e]
    simp only [hunks_Make.l0, if_neg (show ¬ (i : Int) < (G.length : Int) by omega)]
    exact Ev.now _
  | succ d ih =>
    intro i out hi ho
    apply Ev_unfold
    obtain ⟨g, hg⟩ : ∃ g, G.getD i [] = g := ⟨_, rfl⟩
    obtain ⟨h1, h2, A, B, h3⟩ := hG g (hg ▸ getG_mem G i (by omega))
    have hone := one_prog a b ctx hctx g h1 h2 A B h3
    have o1 : out.length < 2513169434916 := by omega
    have o2 : i < 4611686018427387904 := by omega
    have hgo := ih (i + 1) (out ++ [hkof a b ctx g]) (by omega) (by rw [List.length_append, List.length_singleton]; omega)
    rw [List.append_assoc, List.singleton_append] at hgo
    rw [dropG G i (by omega), hg, List.map_cons]
    simp only [hunks_Make.l0, if_pos (show (i : Int) < (G.length : Int) by omega), if_pos (show (0 : Int) ≤ (i : Int) by omega), rdG_nat, hg, hone, bsome, if_pos o1, wadd i o2]
    exact hgo
theorem make_ref : ∀ (d i : Nat) (out : List Hk), i + d = G.length → out.length = i → Ev (fun k => redlineref11_Make.l0 k a b ctx G out (i : Int)) (out ++ (G.drop i).map (hkof a b ctx), 0) := by
  intro d
  induction d with
  | zero =>
    intro i out hi ho
    apply Ev_unfold
    have e : out ++ (G.drop i).map (hkof a b ctx) = out := by rw [List.drop_eq_nil_of_le (show G.length ≤ i by omega), List.map_nil, List.append_nil]
    rw [e]
    simp only [redlineref11_Make.l0, if_neg (show ¬ (i : Int) < (G.length : Int) by omega)]
    exact Ev.now _
  | succ d ih =>
    intro i out hi ho
    apply Ev_unfold
    obtain ⟨g, hg⟩ : ∃ g, G.getD i [] = g := ⟨_, rfl⟩
    obtain ⟨h1, h2, A, B, h3⟩ := hG g (hg ▸ getG_mem G i (by omega))
    have hone := one_ref a b ctx hctx g h1 (by omega) A B h3
    have o1 : out.length < 2513169434916 := by omega
    have o2 : i < 4611686018427387904 := by omega
    have hgo := ih (i + 1) (out ++ [hkof a b ctx g]) (by omega) (by rw [List.length_append, List.length_singleton]; omega)
    rw [List.append_assoc, List.singleton_append] at hgo
    rw [dropG G i (by omega), hg, List.map_cons]
    simp only [redlineref11_Make.l0, if_pos (show (i : Int) < (G.length : Int) by omega), if_pos (show (0 : Int) ≤ (i : Int) by omega), rdG_nat, hg]
    refine Ev.bind hone ?_
    simp only [if_pos o1, wadd i o2]
    exact hgo
end
/-- the hunks, or what is wrong -/
def mout (a b : List ByteArray) (ctx : Int) (l : List Ch) : List Hk × Int := if chk a.length b.length l true 0 0 = true then (if ctx < 0 ∨ ctx > 100 then ([], 2) else ((grp ctx l).map (hkof a b ctx), 0)) else ([], 50)
theorem grp_ok {n m : Int} (ctx : Int) (l : List Ch) (h : chk n m l true 0 0 = true) : (∀ g ∈ grp ctx l, g ≠ [] ∧ g.length ≤ 1000000000000 ∧ ∃ A B, Chn n m A B g) ∧ (grp ctx l).length ≤ 1000000000000 := by
  have hl := chk_len l true 0 0 h (by omega)
  have hc := chn_of l true 0 0 h
  cases l with
  | nil => exact ⟨fun g hg => (by cases hg), by simp [grp]⟩
  | cons c l =>
    simp only [List.length_cons] at hl
    obtain ⟨g1, g2⟩ := gs_len ctx l [c] c
    refine ⟨fun g hg => ?_, (show (gs ctx [c] c l).length ≤ 1000000000000 by omega)⟩
    unfold grp at hg
    have h1 := gs_ok ctx l [c] c 0 0 (by simp) hc g hg
    have h2 := g1 g hg
    simp only [List.length_cons, List.length_nil] at h2
    exact ⟨h1.1, by omega, h1.2⟩
section
variable (a b : List ByteArray) (ha : a.length ≤ 1000000000000000) (hb : b.length ≤ 1000000000000000) (l : List Ch) (hl : l.length ≤ 4398046511103) (ctx : Int)
include ha hb hl
theorem make_p : Ev (fun k => hunks_Make.f k l a b ctx) (mout a b ctx l) := by
  unfold hunks_Make.f
  refine Ev.bind (group_p a.length b.length (by omega) (by omega) l hl ctx) ?_
  unfold gout mout
  by_cases h : chk a.length b.length l true 0 0 = true
  case neg => simp only [if_neg h, if_neg (show ¬ (50 : Int) = 0 by decide)]; exact Ev.now _
  simp only [if_pos h]
  by_cases h1 : ctx < 0 ∨ ctx > 100
  · simp only [if_pos h1, if_neg (show ¬ (2 : Int) = 0 by decide)]; exact Ev.now _
  · simp only [if_neg h1, if_true]
    obtain ⟨k1, k2⟩ := grp_ok ctx l h
    have := make_prog a b ctx (by omega) (grp ctx l) k1 k2 (grp ctx l).length 0 [] (by omega) rfl
    rw [List.drop_zero, List.nil_append] at this
    exact this
theorem make_r : Ev (fun k => redlineref11_Make.f k l a b ctx) (mout a b ctx l) := by
  unfold redlineref11_Make.f
  refine Ev.bind (group_r a.length b.length (by omega) (by omega) l hl ctx) ?_
  unfold gout mout
  by_cases h : chk a.length b.length l true 0 0 = true
  case neg => simp only [if_neg h, if_neg (show ¬ (50 : Int) = 0 by decide)]; exact Ev.now _
  simp only [if_pos h]
  by_cases h1 : ctx < 0 ∨ ctx > 100
  · simp only [if_pos h1, if_neg (show ¬ (2 : Int) = 0 by decide)]; exact Ev.now _
  · simp only [if_neg h1, if_true]
    obtain ⟨k1, k2⟩ := grp_ok ctx l h
    have := make_ref a b ctx (by omega) (grp ctx l) k1 k2 (grp ctx l).length 0 [] (by omega) rfl
    rw [List.drop_zero, List.nil_append] at this
    exact this
end
theorem mout_ok (a b : List ByteArray) (ctx : Int) (l : List Ch) : (mout a b ctx l).1.length ≤ 1000000000000 ∧ ∀ h ∈ (mout a b ctx l).1, h.f4.length ≤ 20000000000 := by
  unfold mout
  by_cases h : chk a.length b.length l true 0 0 = true
  case neg => rw [if_neg h]; exact ⟨by simp, fun h hh => (by cases hh)⟩
  rw [if_pos h]
  by_cases h1 : ctx < 0 ∨ ctx > 100
  · rw [if_pos h1]; exact ⟨by simp, fun h hh => (by cases hh)⟩
  · rw [if_neg h1]
    obtain ⟨k1, k2⟩ := grp_ok ctx l h
    refine ⟨by rw [List.length_map]; exact k2, fun x hx => ?_⟩
    obtain ⟨g, hg, rfl⟩ := List.mem_map.mp hx
    obtain ⟨j1, j2, A, B, j3⟩ := k1 g hg
    exact hunk_len a b ctx (by omega) g j1 A B j3
/-! equal rows are told equal -/
theorem same_m (x0 x1 x2 x3 y0 y1 y2 y3 : Int) (ms : List Mk) (hl : ms.length ≤ 1000000000000) : ∀ (d i : Nat), i + d = ms.length → Ev (fun k => redlineref11_Same.l0 k (i : Int) x0 x1 x2 x3 ms y0 y1 y2 y3 ms) true := by
  intro d
  induction d with
  | zero =>
    intro i hi
    apply Ev_unfold
    simp only [redlineref11_Same.l0, if_neg (show ¬ (i : Int) < (ms.length : Int) by omega)]
    exact Ev.now _
  | succ d ih =>
    intro i hi
    apply Ev_unfold
    have o2 : i < 4611686018427387904 := by omega
    simp only [redlineref11_Same.l0, if_pos (show (i : Int) < (ms.length : Int) by omega), if_pos (show (0 : Int) ≤ (i : Int) by omega), beq_self_eq_true, Bool.not_true, Bool.or_false, Bool.false_eq_true, if_false, wadd i o2]
    exact ih (i + 1) (by omega)
theorem same_h (x0 x1 x2 x3 : Int) (ms : List Mk) (hl : ms.length ≤ 1000000000000) : Ev (fun k => redlineref11_Same.f k x0 x1 x2 x3 ms x0 x1 x2 x3 ms) true := by
  unfold redlineref11_Same.f
  simp only [if_true, bne_self_eq_false]
  apply Ev_unfold
  simp only [redlineref11_Same.j0, Bool.false_eq_true, if_false]
  exact same_m _ _ _ _ _ _ _ _ ms hl ms.length 0 (by omega)
theorem same_hs (x : List Hk) (hl : x.length ≤ 1000000000000) (hx : ∀ h ∈ x, h.f4.length ≤ 20000000000) : Ev (fun k => redlineref11_SameHunks.f k x x) true := by
  have go : ∀ (d i : Nat), i + d = x.length → Ev (fun k => redlineref11_SameHunks.l0 k x x (i : Int)) true := by
    intro d
    induction d with
    | zero =>
      intro i hi
      apply Ev_unfold
      simp only [redlineref11_SameHunks.l0, if_neg (show ¬ (i : Int) < (x.length : Int) by omega)]
      exact Ev.now _
    | succ d ih =>
      intro i hi
      apply Ev_unfold
      have o2 : i < 4611686018427387904 := by omega
      have hm := hx _ (getH_mem x i (by omega))
      simp only [redlineref11_SameHunks.l0, if_pos (show (i : Int) < (x.length : Int) by omega), if_pos (show (0 : Int) ≤ (i : Int) by omega), rdHk_nat, wadd i o2]
      refine Ev.bind (same_h _ _ _ _ _ (by omega)) ?_
      simp only [if_true]
      exact ih (i + 1) (by omega)
  unfold redlineref11_SameHunks.f
  simp only [if_true]
  exact go x.length 0 (by omega)
theorem same_c (x : List Ch) (hl : x.length ≤ 1000000000000000) : Ev (fun k => redlineref05_Same.f k x x) true := by
  have go : ∀ (d i : Nat), i + d = x.length → Ev (fun k => redlineref05_Same.l0 k x x (i : Int)) true := by
    intro d
    induction d with
    | zero =>
      intro i hi
      apply Ev_unfold
      simp only [redlineref05_Same.l0, if_neg (show ¬ (i : Int) < (x.length : Int) by omega)]
      exact Ev.now _
    | succ d ih =>
      intro i hi
      apply Ev_unfold
      have o2 : i < 4611686018427387904 := by omega
      simp only [redlineref05_Same.l0, if_pos (show (i : Int) < (x.length : Int) by omega), if_pos (show (0 : Int) ≤ (i : Int) by omega), beq_self_eq_true, Bool.not_true, Bool.or_false, Bool.false_eq_true, if_false, wadd i o2]
      exact ih (i + 1) (by omega)
  unfold redlineref05_Same.f
  simp only [if_true]
  exact go x.length 0 (by omega)
theorem same_s (x : List ByteArray) (hl : x.length ≤ 1000000000000000) : Ev (fun k => redlineref01_SameStrings.f k x x) true := by
  have go : ∀ (d i : Nat), i + d = x.length → Ev (fun k => redlineref01_SameStrings.l0 k x x (i : Int)) true := by
    intro d
    induction d with
    | zero =>
      intro i hi
      apply Ev_unfold
      simp only [redlineref01_SameStrings.l0, if_neg (show ¬ (i : Int) < (x.length : Int) by omega)]
      exact Ev.now _
    | succ d ih =>
      intro i hi
      apply Ev_unfold
      have o2 : i < 4611686018427387904 := by omega
      simp only [redlineref01_SameStrings.l0, if_pos (show (i : Int) < (x.length : Int) by omega), if_pos (show (0 : Int) ≤ (i : Int) by omega), if_true, wadd i o2]
      exact ih (i + 1) (by omega)
  unfold redlineref01_SameStrings.f
  simp only [if_true]
  exact go x.length 0 (by omega)
theorem Ev_all {α β : Type} {f : β → Nat → Option α} {r : α} : ∀ (g : List β), (∀ l ∈ g, Ev (f l) r) → ∃ K, ∀ k, K ≤ k → ∀ l ∈ g, f l k = some r
  | [], _ => ⟨0, fun k _ l h => (by cases h)⟩
  | x :: g, h => by
    obtain ⟨K1, h1⟩ := h x (List.mem_cons_self ..)
    obtain ⟨K2, h2⟩ := Ev_all g (fun l hl => h l (List.mem_cons_of_mem _ hl))
    refine ⟨max K1 K2, fun k hk l hl => ?_⟩
    cases hl with
    | head => exact h1 k (by omega)
    | tail _ hl => exact h2 k (by omega) l hl
/-- all that the law's walk asks for -/
theorem makes_all (a b : List ByteArray) (ha : a.length ≤ 1000000000000000) (hb : b.length ≤ 1000000000000000) (l : List Ch) (hl : l.length ≤ 4398046511103) (ctx : Int) : ∃ (k : Nat) (x : List Hk) (e : Int) (g : List (List Ch)) (hh : Int),
    hunks_Make.f k l a b ctx = some (x, e) ∧ redlineref11_Make.f k l a b ctx = some (x, e) ∧ hunks_Group.f k l (a.length : Int) (b.length : Int) ctx = some (g, hh) ∧ redlineref11_Group.f k l (a.length : Int) (b.length : Int) ctx = some (g, hh) ∧
    redlineref11_SameHunks.f k x x = some true ∧ redlineref05_Same.f k l l = some true ∧ (∀ l ∈ g, redlineref05_Same.f k l l = some true) ∧ redlineref01_SameStrings.f k a a = some true ∧ redlineref01_SameStrings.f k b b = some true := by
  obtain ⟨K1, h1⟩ := make_p a b ha hb l hl ctx
  obtain ⟨K2, h2⟩ := make_r a b ha hb l hl ctx
  obtain ⟨K3, h3⟩ := group_p a.length b.length (by omega) (by omega) l hl ctx
  obtain ⟨K4, h4⟩ := group_r a.length b.length (by omega) (by omega) l hl ctx
  have hm := mout_ok a b ctx l
  obtain ⟨K5, h5⟩ := same_hs (mout a b ctx l).1 hm.1 hm.2
  obtain ⟨K6, h6⟩ := same_c l (by omega)
  have hg : ∀ g ∈ (gout a.length b.length ctx l).1, g.length ≤ 1000000000000000 := by
    unfold gout
    intro g hg
    by_cases h : chk a.length b.length l true 0 0 = true
    case neg => rw [if_neg h] at hg; cases hg
    rw [if_pos h] at hg
    by_cases h1 : ctx < 0 ∨ ctx > 100
    · rw [if_pos h1] at hg; cases hg
    · rw [if_neg h1] at hg
      have := ((grp_ok ctx l h).1 g hg).2.1
      omega
  obtain ⟨K7, h7⟩ := Ev_all (f := fun l k => redlineref05_Same.f k l l) (gout a.length b.length ctx l).1 (fun g hgm => same_c g (hg g hgm))
  obtain ⟨K8, h8⟩ := same_s a ha
  obtain ⟨K9, h9⟩ := same_s b hb
  let K := max K1 (max K2 (max K3 (max K4 (max K5 (max K6 (max K7 (max K8 K9)))))))
  exact ⟨K, _, _, _, _, h1 K (by omega), h2 K (by omega), h3 K (by omega), h4 K (by omega), h5 K (by omega), h6 K (by omega), h7 K (by omega), h8 K (by omega), h9 K (by omega)⟩
end H11
end Go.Proofs.Ytmnajajnbmlihaa.Q
