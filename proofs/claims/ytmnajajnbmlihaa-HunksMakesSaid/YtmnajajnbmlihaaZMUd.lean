/- plain: a group's hunk, by the reference -/
import Derived.Test.YtmnajajnbmlihaaZMUc
import Derived.Test.YtmnajajnbmlihaaZMXx13
import Derived.Test.YtmnajajnbmlihaaZMXx14
import Derived.Test.YtmnajajnbmlihaaZMXx15
import Derived.Test.YtmnajajnbmlihaaZMXx16
import Derived.Test.YtmnajajnbmlihaaZMXx17
namespace Go.Proofs.Ytmnajajnbmlihaa.Q
set_option linter.unusedVariables false
set_option linter.unusedSimpArgs false
open Go.RowKit Go.Proofs.Ytmnajajnbmlihaa.X Go.Proofs.YtmnajajnbmlihaaW.PrintWords Go.Proofs.YtmnajajnbmlihaaW.PrintLast Go.Proofs.YtmnajajnbmlihaaW.PrintMore
namespace H11
abbrev zm : Mk := z46
theorem rdMk_nat (l : List Mk) (i : Nat) : rd_T46 l (i : Int) = l.getD i zm := by
  have h : ∀ j : Int, j = (i : Int) → rd_T46 l j = l.getD i zm := by
    intro j h
    subst h
    rfl
  exact h _ rfl
theorem dropMk (l : List Mk) (i : Nat) (h : i < l.length) : l.drop i = l.getD i zm :: l.drop (i + 1) := by
  rw [List.drop_eq_getElem_cons h]; simp [List.getD_eq_getElem?_getD, h]
theorem getMk_mem (l : List Mk) (i : Nat) (h : i < l.length) : l.getD i zm ∈ l := by
  rw [List.getD_eq_getElem?_getD, List.getElem?_eq_getElem h]
  exact List.getElem_mem h
theorem cut_nil (l : List ByteArray) (a b : Int) (h0 : 0 ≤ a) (h : b ≤ a) : ho_cut l a b = [] := by
  unfold ho_cut; exact List.drop_eq_nil_of_le (by rw [List.length_take]; omega)
theorem cut_cons (l : List ByteArray) (a b : Int) (h0 : 0 ≤ a) (h1 : a < b) (h2 : b ≤ (l.length : Int)) : ho_cut l a b = rdOf ByteArray.empty l a :: ho_cut l (a + 1) b := by
  unfold ho_cut
  rw [show (a + 1).toNat = a.toNat + 1 by omega, List.drop_eq_getElem_cons (show a.toNat < (l.take b.toNat).length by rw [List.length_take]; omega)]
  congr 1
  simp [rdOf, List.getD_eq_getElem?_getD, List.getElem_take, show a.toNat < l.length by omega]
theorem lay_nil (sign : Int) (ms : List Mk) : ms ++ lay sign [] = ms := by rw [lay, List.map_nil, List.append_nil]
theorem lay_cons (sign : Int) (s : ByteArray) (xs : List ByteArray) (ms : List Mk) : ms ++ lay sign (s :: xs) = (ms ++ [(⟨sign, s⟩ : Mk)]) ++ lay sign xs := by rw [lay, List.map_cons, List.append_assoc]; rfl
/-- only the three signs -/
def Sg (ms : List Mk) : Prop := ∀ m ∈ ms, m.f0 = 32 ∨ m.f0 = 43 ∨ m.f0 = 45
theorem Sg.app {p q : List Mk} (h1 : Sg p) (h2 : Sg q) : Sg (p ++ q) := fun m hm => by
  rcases List.mem_append.mp hm with h | h
  · exact h1 m h
  · exact h2 m h
theorem Sg.lay {s : Int} (h : s = 32 ∨ s = 43 ∨ s = 45) (xs : List ByteArray) : Sg (lay s xs) := fun m hm => by
  obtain ⟨x, _, rfl⟩ := List.mem_map.mp hm
  exact h
theorem Sg.lns (a b : List ByteArray) : ∀ (g : List Ch) (at_ : Int), Sg (lns a b at_ g)
  | [], _ => fun m hm => by rw [H11.lns] at hm; cases hm
  | c :: g, at_ => by
    rw [H11.lns]
    exact (Sg.lay (.inl rfl) _).app ((Sg.lay (.inr (.inr rfl)) _).app ((Sg.lay (.inr (.inl rfl)) _).app (Sg.lns a b g _)))
/-- the texts of the lines that are not of this sign -/
def pk (s : Int) (ms : List Mk) : List ByteArray := (ms.filter fun m => decide (m.f0 ≠ s)).map fun m => m.f1
theorem pk_len (s : Int) (ms : List Mk) : ((pk s ms).length : Int) = cnt s ms := by unfold pk cnt; rw [List.length_map]
theorem pk_cons (s : Int) (m : Mk) (ms : List Mk) : pk s (m :: ms) = if m.f0 = s then pk s ms else m.f1 :: pk s ms := by
  unfold pk
  by_cases h : m.f0 = s
  · rw [if_pos h, List.filter_cons_of_neg (by simp [h])]
  · rw [if_neg h, List.filter_cons_of_pos (by simp [h]), List.map_cons]
theorem pick_r (s h0 h1 h2 h3 : Int) (ms : List Mk) (hs : Sg ms) (hl : ms.length ≤ 4000000000000) : ∀ (d i : Nat) (out : List ByteArray), i + d = ms.length → out.length ≤ i → Ev (fun k => redlineref11_pick.l0 k s out (i : Int) h0 h1 h2 h3 ms) (out ++ pk s (ms.drop i)) := by
  intro d
  induction d with
  | zero =>
    intro i out hi ho
    apply Ev_unfold
    have e : out ++ pk s (ms.drop i) = out := by rw [List.drop_eq_nil_of_le (show ms.length ≤ i by omega)]; unfold pk; simp
    rw [e]
    simp only [redlineref11_pick.l0, if_neg (show ¬ (i : Int) < (ms.length : Int) by omega)]
    exact Ev.now _
  | succ d ih =>
    intro i out hi ho
    apply Ev_unfold
    rw [dropMk ms i (by omega), pk_cons]
    have o2 : i < 4611686018427387904 := by omega
    have o3 : out.length < 8796093022208 := by omega
    obtain ⟨m, hm⟩ : ∃ m, ms.getD i zm = m := ⟨_, rfl⟩
    have hsm := hs m (hm ▸ getMk_mem ms i (by omega))
    simp only [redlineref11_pick.l0, if_pos (show (i : Int) < (ms.length : Int) by omega), if_pos (show (0 : Int) ≤ (i : Int) by omega), rdMk_nat, hm, wadd i o2]
    by_cases h : m.f0 = s
    · simp only [if_pos h]
      exact ih (i + 1) out (by omega) (by omega)
    · rw [if_neg h]
      have hgo := ih (i + 1) (out ++ [m.f1]) (by omega) (by rw [List.length_append, List.length_singleton]; omega)
      rw [List.append_assoc, List.singleton_append] at hgo
      simp only [if_neg h]
      rcases hsm with e | e | e
      · simp only [if_pos e, if_pos o3]; exact hgo
      · simp only [if_neg (show ¬ m.f0 = 32 by omega), if_neg (show ¬ m.f0 = 45 by omega), if_pos e, if_pos o3]; exact hgo
      · simp only [if_neg (show ¬ m.f0 = 32 by omega), if_pos e, if_pos o3]; exact hgo
theorem count_r (h0 h1 h2 h3 : Int) (ms : List Mk) (hs : Sg ms) (hl : ms.length ≤ 4000000000000) (a1 a2 : Int) (b1 : 0 ≤ a1 ∧ a1 ≤ 1000000000000000) (b2 : -1000000000000000 ≤ a2 ∧ a2 ≤ 1000000000000000) :
    Ev (fun k => redlineref11_count.f k h0 h1 h2 h3 ms a1 a2) (a1 + (if cnt 43 ms > 0 then 1 else 0), cnt 43 ms, a2 + (if cnt 45 ms > 0 then 1 else 0), cnt 45 ms, ms) := by
  unfold redlineref11_count.f
  have p1 : ∀ y, Ev (fun k => redlineref11_Old.f k h0 y h2 h3 ms) (pk 43 ms) := fun y => by
    unfold redlineref11_Old.f redlineref11_pick.f
    refine Ev.bind (pick_r 43 h0 y h2 h3 ms hs hl ms.length 0 [] (by omega) (by simp)) ?_
    rw [List.drop_zero, List.nil_append]
    exact Ev.now _
  have p2 : ∀ y, Ev (fun k => redlineref11_New.f k h0 y h2 h3 ms) (pk 45 ms) := fun y => by
    unfold redlineref11_New.f redlineref11_pick.f
    refine Ev.bind (pick_r 45 h0 y h2 h3 ms hs hl ms.length 0 [] (by omega) (by simp)) ?_
    rw [List.drop_zero, List.nil_append]
    exact Ev.now _
  refine Ev.bind (p1 _) (Ev.bind (p2 _) ?_)
  simp only [pk_len]
  have w1 : wrap64 (a1 + 1) = a1 + 1 := w64 _ (by omega)
  have w2 : wrap64 (a2 + 1) = a2 + 1 := w64 _ (by omega)
  by_cases x : cnt 43 ms > 0
  · by_cases y : cnt 45 ms > 0
    · simp only [if_pos x, if_pos y, w1, w2]; exact Ev.now _
    · simp only [if_pos x, if_neg y, w1, Int.add_zero]; exact Ev.now _
  · by_cases y : cnt 45 ms > 0
    · simp only [if_neg x, if_pos y, w2, Int.add_zero]; exact Ev.now _
    · simp only [if_neg x, if_neg y, Int.add_zero]; exact Ev.now _
section
variable (g : List Ch) (a b : List ByteArray) (m E h0 h1 h2 h3 : Int) (R : Int × Int × Int × Int × List Mk)
theorem l4_r : ∀ (d : Nat) (at_ : Int) (ms : List Mk), 0 ≤ at_ → at_ + (d : Int) = E → E ≤ (a.length : Int) → E ≤ 1000000000000 → (ms.length : Int) + d ≤ 1000000000000 →
    Ev (fun k => (redlineref11_count.f k 0 0 0 0 (ms ++ lay 32 (ho_cut a at_ E)) (wrap64 (h0 - m)) (wrap64 (h2 - m))).bind fun t => some (t.1, t.2.1, t.2.2.1, t.2.2.2.1, t.2.2.2.2)) R →
    Ev (fun k => redlineref11_one.l4 k a m E at_ h0 h1 h2 h3 0 0 0 0 ms) R := by
  intro d
  induction d with
  | zero =>
    intro at_ ms k0 k1 k2 k3 k4 hR
    apply Ev_unfold
    rw [cut_nil a at_ E k0 (by omega), lay_nil] at hR
    simp only [redlineref11_one.l4, if_neg (show ¬ at_ < E by omega)]
    exact hR
  | succ d ih =>
    intro at_ ms k0 k1 k2 k3 k4 hR
    apply Ev_unfold
    rw [cut_cons a at_ E k0 (by omega) k2, lay_cons] at hR
    have o1 : ms.length < 5864062014805 := by omega
    have w1 : wrap64 (at_ + 1) = at_ + 1 := w64 _ (by omega)
    simp only [redlineref11_one.l4, if_pos (show at_ < E by omega), if_pos k0, if_pos (show at_ < (a.length : Int) by omega), if_pos o1, w1]
    exact ih (at_ + 1) _ (by omega) (by omega) k2 k3 (by rw [List.length_append, List.length_singleton]; omega) hR
variable (i : Nat) (hi : i < g.length) (hgl : g.length ≤ 4000000000000) (c : Ch) (hc : g.getD i zc = c)
include hi hgl hc
theorem l3_r (at_ : Int) (hw : wrap64 (c.f2 + c.f3) = c.f2 + c.f3) : ∀ (d : Nat) (bt : Int) (ms : List Mk), 0 ≤ bt → bt + (d : Int) = c.f2 + c.f3 → c.f2 + c.f3 ≤ (b.length : Int) → c.f2 + c.f3 ≤ 1000000000000 → (ms.length : Int) + d ≤ 1000000000000 →
    Ev (fun k => redlineref11_one.l0 k g a b m E at_ ((i + 1 : Nat) : Int) h0 h1 h2 h3 0 0 0 0 (ms ++ lay 43 (ho_cut b bt (c.f2 + c.f3)))) R →
    Ev (fun k => redlineref11_one.l3 k g a b m E at_ (i : Int) bt h0 h1 h2 h3 0 0 0 0 ms) R := by
  intro d
  induction d with
  | zero =>
    intro bt ms k0 k1 k2 k3 k4 hR
    apply Ev_unfold
    rw [cut_nil b bt _ k0 (by omega), lay_nil] at hR
    have o2 : i < 4611686018427387904 := by omega
    simp only [redlineref11_one.l3, if_pos (show (0 : Int) ≤ (i : Int) by omega), if_pos (show (i : Int) < (g.length : Int) by omega), rdCh_nat, hc, hw, if_neg (show ¬ bt < c.f2 + c.f3 by omega), wadd i o2]
    exact hR
  | succ d ih =>
    intro bt ms k0 k1 k2 k3 k4 hR
    apply Ev_unfold
    rw [cut_cons b bt _ k0 (by omega) k2, lay_cons] at hR
    have o1 : ms.length < 5864062014805 := by omega
    have w1 : wrap64 (bt + 1) = bt + 1 := w64 _ (by omega)
    simp only [redlineref11_one.l3, if_pos (show (0 : Int) ≤ (i : Int) by omega), if_pos (show (i : Int) < (g.length : Int) by omega), rdCh_nat, hc, hw, if_pos (show bt < c.f2 + c.f3 by omega), if_pos k0, if_pos (show bt < (b.length : Int) by omega), if_pos o1, w1]
    exact ih (bt + 1) _ (by omega) (by omega) k2 k3 (by rw [List.length_append, List.length_singleton]; omega) hR
omit hgl in
theorem l2_r (hw : wrap64 (c.f0 + c.f1) = c.f0 + c.f1) : ∀ (d : Nat) (at_ : Int) (ms : List Mk), 0 ≤ at_ → at_ + (d : Int) = c.f0 + c.f1 → c.f0 + c.f1 ≤ (a.length : Int) → c.f0 + c.f1 ≤ 1000000000000 → (ms.length : Int) + d ≤ 1000000000000 →
    Ev (fun k => redlineref11_one.l3 k g a b m E (c.f0 + c.f1) (i : Int) c.f2 h0 h1 h2 h3 0 0 0 0 (ms ++ lay 45 (ho_cut a at_ (c.f0 + c.f1)))) R →
    Ev (fun k => redlineref11_one.l2 k g a b m E at_ (i : Int) h0 h1 h2 h3 0 0 0 0 ms) R := by
  intro d
  induction d with
  | zero =>
    intro at_ ms k0 k1 k2 k3 k4 hR
    apply Ev_unfold
    rw [cut_nil a at_ _ k0 (by omega), lay_nil] at hR
    have e : at_ = c.f0 + c.f1 := by omega
    simp only [redlineref11_one.l2, if_pos (show (0 : Int) ≤ (i : Int) by omega), if_pos (show (i : Int) < (g.length : Int) by omega), rdCh_nat, hc, hw, if_neg (show ¬ at_ < c.f0 + c.f1 by omega)]
    rw [e]
    exact hR
  | succ d ih =>
    intro at_ ms k0 k1 k2 k3 k4 hR
    apply Ev_unfold
    rw [cut_cons a at_ _ k0 (by omega) k2, lay_cons] at hR
    have o1 : ms.length < 5864062014805 := by omega
    have w1 : wrap64 (at_ + 1) = at_ + 1 := w64 _ (by omega)
    simp only [redlineref11_one.l2, if_pos (show (0 : Int) ≤ (i : Int) by omega), if_pos (show (i : Int) < (g.length : Int) by omega), rdCh_nat, hc, hw, if_pos (show at_ < c.f0 + c.f1 by omega), if_pos k0, if_pos (show at_ < (a.length : Int) by omega), if_pos o1, w1]
    exact ih (at_ + 1) _ (by omega) (by omega) k2 k3 (by rw [List.length_append, List.length_singleton]; omega) hR
omit hgl in
theorem l1_r : ∀ (d : Nat) (at_ : Int) (ms : List Mk), 0 ≤ at_ → at_ + (d : Int) = c.f0 → c.f0 ≤ (a.length : Int) → c.f0 ≤ 1000000000000 → (ms.length : Int) + d ≤ 1000000000000 →
    Ev (fun k => redlineref11_one.l2 k g a b m E c.f0 (i : Int) h0 h1 h2 h3 0 0 0 0 (ms ++ lay 32 (ho_cut a at_ c.f0))) R →
    Ev (fun k => redlineref11_one.l1 k g a b m E at_ (i : Int) h0 h1 h2 h3 0 0 0 0 ms) R := by
  intro d
  induction d with
  | zero =>
    intro at_ ms k0 k1 k2 k3 k4 hR
    apply Ev_unfold
    rw [cut_nil a at_ _ k0 (by omega), lay_nil] at hR
    have e : at_ = c.f0 := by omega
    simp only [redlineref11_one.l1, if_pos (show (0 : Int) ≤ (i : Int) by omega), if_pos (show (i : Int) < (g.length : Int) by omega), rdCh_nat, hc, if_neg (show ¬ at_ < c.f0 by omega)]
    rw [e]
    exact hR
  | succ d ih =>
    intro at_ ms k0 k1 k2 k3 k4 hR
    apply Ev_unfold
    rw [cut_cons a at_ _ k0 (by omega) k2, lay_cons] at hR
    have o1 : ms.length < 5864062014805 := by omega
    have w1 : wrap64 (at_ + 1) = at_ + 1 := w64 _ (by omega)
    simp only [redlineref11_one.l1, if_pos (show (0 : Int) ≤ (i : Int) by omega), if_pos (show (i : Int) < (g.length : Int) by omega), rdCh_nat, hc, if_pos (show at_ < c.f0 by omega), if_pos k0, if_pos (show at_ < (a.length : Int) by omega), if_pos o1, w1]
    exact ih (at_ + 1) _ (by omega) (by omega) k2 k3 (by rw [List.length_append, List.length_singleton]; omega) hR
end
theorem l0_r (g : List Ch) (a b : List ByteArray) (m E h0 h1 h2 h3 : Int) (R : Int × Int × Int × Int × List Mk) (hgl : g.length ≤ 4000000000000) : ∀ (d i : Nat) (at_ bt : Int) (ms : List Mk), i + d = g.length → 0 ≤ at_ → 0 ≤ bt → at_ ≤ 5000000000 → bt ≤ 5000000000 → (ms.length : Int) ≤ at_ + bt → Chn a.length b.length at_ bt (g.drop i) →
    Ev (fun k => redlineref11_one.l4 k a m E (endof at_ (g.drop i)) h0 h1 h2 h3 0 0 0 0 (ms ++ lns a b at_ (g.drop i))) R →
    Ev (fun k => redlineref11_one.l0 k g a b m E at_ (i : Int) h0 h1 h2 h3 0 0 0 0 ms) R := by
  intro d
  induction d with
  | zero =>
    intro i at_ bt ms hi k1 k2 k3 k4 k5 hch hR
    apply Ev_unfold
    have e1 : endof at_ (g.drop i) = at_ := by rw [List.drop_eq_nil_of_le (show g.length ≤ i by omega), endof]
    have e2 : ms ++ lns a b at_ (g.drop i) = ms := by rw [List.drop_eq_nil_of_le (show g.length ≤ i by omega), lns, List.append_nil]
    rw [e1, e2] at hR
    simp only [redlineref11_one.l0, if_neg (show ¬ (i : Int) < (g.length : Int) by omega)]
    exact hR
  | succ d ih =>
    intro i at_ bt ms hi k1 k2 k3 k4 k5 hch hR
    apply Ev_unfold
    obtain ⟨c, hc⟩ : ∃ c, g.getD i zc = c := ⟨_, rfl⟩
    rw [dropC g i (by omega), hc] at hch hR
    obtain ⟨q0, q1, q2, q3, q4, q5, q6, q7, q8⟩ := hch
    unfold Small at q0 q1 q2 q3
    have e1 := ho_cut_len a at_ c.f0 k1 q4 (by omega)
    have e2 := ho_cut_len a c.f0 (c.f0 + c.f1) (by omega) (by omega) q6
    have e3 := ho_cut_len b c.f2 (c.f2 + c.f3) (by omega) (by omega) q7
    simp only [redlineref11_one.l0, if_pos (show (i : Int) < (g.length : Int) by omega)]
    refine l1_r g a b m E h0 h1 h2 h3 R i (by omega) c hc (c.f0 - at_).toNat at_ ms k1 (by omega) (by omega) (by omega) (by omega) ?_
    refine l2_r g a b m E h0 h1 h2 h3 R i (by omega) c hc (w64 _ (by omega)) c.f1.toNat c.f0 _ (by omega) (by omega) q6 (by omega) (by rw [List.length_append, lay_len]; omega) ?_
    refine l3_r g a b m E h0 h1 h2 h3 R i (by omega) hgl c hc (c.f0 + c.f1) (w64 _ (by omega)) c.f3.toNat c.f2 _ (by omega) (by omega) q7 (by omega) (by rw [List.length_append, List.length_append, lay_len, lay_len]; omega) ?_
    refine ih (i + 1) (c.f0 + c.f1) (c.f2 + c.f3) _ (by omega) (by omega) (by omega) (by omega) (by omega) (by rw [List.length_append, List.length_append, List.length_append, lay_len, lay_len, lay_len]; omega) q8 ?_
    have e4 : ms ++ lns a b at_ (c :: g.drop (i + 1)) = ((ms ++ lay 32 (ho_cut a at_ c.f0)) ++ lay 45 (ho_cut a c.f0 (c.f0 + c.f1))) ++ lay 43 (ho_cut b c.f2 (c.f2 + c.f3)) ++ lns a b (c.f0 + c.f1) (g.drop (i + 1)) := by simp only [lns, List.append_assoc]
    rw [e4, endof] at hR
    exact hR
theorem end_last : ∀ (g : List Ch) (at_ : Int), g ≠ [] → endof at_ g = (g.getD (g.length - 1) zc).f0 + (g.getD (g.length - 1) zc).f1
  | [], _, h => absurd rfl h
  | [c], _, _ => rfl
  | c :: c' :: g, at_, _ => by
    rw [endof, end_last (c' :: g) _ (by simp)]
    rfl
theorem one_ref (a b : List ByteArray) (ctx : Int) (hctx : 0 ≤ ctx ∧ ctx ≤ 100) (g : List Ch) (hg : g ≠ []) (hgl : g.length ≤ 4000000000000) (A B : Int) (hc : Chn a.length b.length A B g) : Ev (fun k => redlineref11_one.f k g a b ctx) (hunk a b ctx g) := by
  have hlen : 0 < g.length := List.length_pos_iff.mpr hg
  have e0 : rd_T35 g 0 = g.getD 0 zc := rdCh_nat g 0
  have w1 : wrap64 ((g.length : Int) - 1) = ((g.length - 1 : Nat) : Int) := by rw [w64 _ (by omega)]; omega
  obtain ⟨l, hl⟩ : ∃ l, g.getD (g.length - 1) zc = l := ⟨_, rfl⟩
  obtain ⟨c, hcc⟩ : ∃ c, g.getD 0 zc = c := ⟨_, rfl⟩
  obtain ⟨p0, p1, p2, p3⟩ := chn_at g A B l hc (hl ▸ get_mem g (g.length - 1) (by omega))
  obtain ⟨q0, q1, q2, q3⟩ := chn_at g A B c hc (hcc ▸ get_mem g 0 hlen)
  unfold Small at p0 p1 q0 q2
  obtain ⟨m, hm⟩ : ∃ m, mn ctx c.f0 = m := ⟨_, rfl⟩
  have hm1 : 0 ≤ m ∧ m ≤ c.f0 ∧ m ≤ ctx := by rw [← hm]; unfold mn; split <;> omega
  have w2 : wrap64 (l.f0 + l.f1) = l.f0 + l.f1 := w64 _ (by omega)
  have w3 : wrap64 (l.f0 + l.f1 + ctx) = l.f0 + l.f1 + ctx := w64 _ (by omega)
  have w4 : wrap64 (c.f0 - m) = c.f0 - m := w64 _ (by omega)
  have w5 : wrap64 (c.f2 - m) = c.f2 - m := w64 _ (by omega)
  unfold redlineref11_one.f
  simp only [if_pos (show (0 : Int) < (g.length : Int) by omega), w1, if_pos (show (0 : Int) ≤ ((g.length - 1 : Nat) : Int) by omega), if_pos (show ((g.length - 1 : Nat) : Int) < (g.length : Int) by omega), e0, rdCh_nat, hl, hcc, hm, w2, w3, w4]
  have hch : Chn a.length b.length (c.f0 - m) 0 (g.drop 0) := by
    rw [dropC g 0 hlen, hcc]
    have := hc
    rw [← List.drop_zero (l := g), dropC g 0 hlen, hcc] at this
    exact chn_weak this (by omega) (by omega)
  refine l0_r g a b m _ c.f0 c.f1 c.f2 c.f3 _ hgl g.length 0 (c.f0 - m) 0 [] (by omega) (by omega) (by omega) (by omega) (by omega) (by simp; omega) hch ?_
  rw [List.drop_zero] at hch ⊢
  obtain ⟨x1, x2, x3, x4, x5, x6⟩ := end_le g _ _ hch
  have he := end_last g (c.f0 - m) hg
  rw [hl] at he
  unfold hunk
  rw [e0, hcc]
  dsimp only
  rw [hm, List.nil_append, ← he]
  obtain ⟨E, hE⟩ : ∃ E, endof (c.f0 - m) g = E := ⟨_, rfl⟩
  have hn : c.f0 ≤ (a.length : Int) := by
    have := hc
    rw [← List.drop_zero (l := g), dropC g 0 hlen, hcc] at this
    have h1 := this.2.2.2.2.2.2.1
    have h2 := this.2.1.1
    omega
  obtain ⟨i1, i2⟩ := go_eq a b g (c.f0 - m) 0 [] (by omega) (by omega) hch (by simp; omega) (by omega) (by omega)
  rw [List.nil_append] at i2
  obtain ⟨F, hF⟩ : ∃ F, lns a b (c.f0 - m) g = F := ⟨_, rfl⟩
  have hsF : Sg F := hF ▸ Sg.lns a b g _
  have y3 := x3 (by omega)
  have y5 := x5 (by omega)
  have y6 := x6 (by omega)
  rw [hE] at y3 y5 x1 i2 ⊢
  rw [hF] at i2 ⊢
  have he2 : E ≤ mn (a.length : Int) (E + ctx) ∧ mn (a.length : Int) (E + ctx) ≤ (a.length : Int) ∧ mn (a.length : Int) (E + ctx) ≤ E + ctx := by unfold mn; split <;> omega
  have e1 := ho_cut_len a E (mn (a.length : Int) (E + ctx)) (by omega) he2.1 he2.2.1
  refine l4_r a m _ c.f0 c.f1 c.f2 c.f3 _ (mn (a.length : Int) (E + ctx) - E).toNat E F (by omega) (by omega) he2.2.1 (by omega) (by omega) ?_
  rw [w4, w5]
  obtain ⟨M, hM⟩ : ∃ M, F ++ lay 32 (ho_cut a E (mn (a.length : Int) (E + ctx))) = M := ⟨_, rfl⟩
  have hml : (M.length : Int) ≤ 20000000000 := by rw [← hM, List.length_append, lay_len]; omega
  have hsM : Sg M := hM ▸ hsF.app (Sg.lay (.inl rfl) _)
  rw [hM]
  refine Ev.bind (count_r 0 0 0 0 M hsM (by omega) (c.f0 - m) (c.f2 - m) (by omega) (by omega)) ?_
  exact Ev.now _
end H11
end Go.Proofs.Ytmnajajnbmlihaa.Q
