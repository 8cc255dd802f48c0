/- plain: the answers that make a text: the program's are the reference's -/
import Derived.Test.YtglffceopijogaaZSSc
namespace Go.Proofs.Ytglffceopijogaa.Q
set_option linter.unusedVariables false
set_option linter.unusedSimpArgs false
open Go.RowKit Go.Proofs.Ytglffceopijogaa.X Go.Proofs.YtglffceopijogaaW.PrintWords Go.Proofs.YtglffceopijogaaW.PrintLast Go.Proofs.YtglffceopijogaaW.PrintMore
namespace H21
open H11 (Ch zc Chn Small rdCh_nat dropC chn_of cko)
theorem bits_get : ∀ (n k i : Nat), i < n → k < 2 ^ n → (bits n k).getD i false = k.testBit (n - 1 - i)
  | 0, k, i, hi, hk => by omega
  | n + 1, k, 0, hi, hk => by
    have hp : 2 ^ (n + 1) = 2 ^ n + 2 ^ n := by rw [Nat.pow_succ]; omega
    have h2 : 0 < 2 ^ n := Nat.two_pow_pos n
    rw [bits, List.getD_cons_zero, show n + 1 - 1 - 0 = n by omega, Nat.testBit_eq_decide_div_mod_eq]
    by_cases h : 2 ^ n ≤ k
    · have e : k / 2 ^ n = 1 := by
        apply Nat.div_eq_of_lt_le <;> omega
      rw [decide_eq_true h, e]; rfl
    · rw [decide_eq_false h, Nat.div_eq_of_lt (by omega)]; rfl
  | n + 1, k, i + 1, hi, hk => by
    rw [bits, List.getD_cons_succ, bits_get n (k % 2 ^ n) i (by omega) (Nat.mod_lt _ (Nat.two_pow_pos n)), Nat.testBit_mod_two_pow, decide_eq_true (show n - 1 - i < n by omega), Bool.true_and, show n + 1 - 1 - (i + 1) = n - 1 - i by omega]
theorem shl_one (n : Nat) (h : n ≤ 10) : shl .i64 1 (n : Int) = ((2 ^ n : Nat) : Int) := by
  have H : ∀ n : Nat, n < 11 → shl .i64 1 (n : Int) = ((2 ^ n : Nat) : Int) := by decide
  exact H n (by omega)
theorem shr_bit (q e : Nat) (h : e ≤ 10) : (Int.tmod (shr .i64 (q : Int) (e : Int)) 2 = 0) ↔ q.testBit e = false := by
  have h1 : shr .i64 (q : Int) (e : Int) = ((q / 2 ^ e : Nat) : Int) := by
    unfold shr
    have : min ((e : Int).toNat) IntKind.i64.bits = e := by
      rw [Int.toNat_natCast]
      have : IntKind.i64.bits = 64 := rfl
      omega
    rw [this]
    push_cast
    rfl
  rw [h1, Nat.testBit_eq_decide_div_mod_eq, decide_eq_false_iff_not]
  generalize q / 2 ^ e = m
  rw [Int.tmod_eq_emod_of_nonneg (by omega)]
  omega
theorem said_lr (r : Bool) (x y : ByteArray) : redlineref21_said.f (lr r) x y = some (if r = true then y else x, true) := by
  unfold redlineref21_said.f lr
  cases r
  · rw [if_neg Bool.false_ne_true, if_neg Bool.false_ne_true, if_pos (by rw [Lib.toList_data])]
  · rw [if_pos rfl, if_pos rfl, if_neg (by rw [Lib.toList_data]; decide), if_pos (by rw [Lib.toList_data])]
theorem map_lr (rs : List Bool) (i : Nat) (h : i < rs.length) : (rs.map lr).getD i be = lr (rs.getD i false) := by
  simp [List.getD_eq_getElem?_getD, h]
theorem dropB (l : List Bool) (i : Nat) (h : i < l.length) : l.drop i = l.getD i false :: l.drop (i + 1) := by
  rw [List.drop_eq_getElem_cons h]; simp [List.getD_eq_getElem?_getD, h]
section
variable (a b : List ByteArray) (ha : a.length ≤ 60) (hb : b.length ≤ 60) (has : ∀ s ∈ a, s.size ≤ 1048576) (hbs : ∀ s ∈ b, s.size ≤ 1048576)
include ha hb has hbs
theorem merge_ev (l : List Ch) (hl : l.length ≤ 10) (hc : cko (a.length : Int) (b.length : Int) l true 0 0 = 0) (hcn : Chn a.length b.length 0 0 l) (rs : List Bool) (hrs : rs.length = l.length) :
    Ev (fun k => redlineref21_Merge.f k l a b (rs.map lr)) (J (mk nx (pcs a b l 0) rs be) (A (a.drop (pend l 0).toNat) be), 0) := by
  have go1 : ∀ (d i : Nat) (s : ByteArray) (at_ bt_ : Int), i + d = l.length → s.size ≤ i * 300000000 → 0 ≤ at_ → at_ ≤ (a.length : Int) → 0 ≤ bt_ → Chn a.length b.length at_ bt_ (l.drop i) →
      Ev (fun k => redlineref21_Merge.l1 k l a b (rs.map lr) s at_ (i : Int)) (J (mk nx (pcs a b (l.drop i) at_) (rs.drop i) s) (A (a.drop (pend (l.drop i) at_).toNat) be), 0) := by
    intro d
    induction d with
    | zero =>
      intro i s at_ bt_ hi hz h0 h1 h2 hch
      apply Ev_unfold
      rw [List.drop_eq_nil_of_le (show l.length ≤ i by omega), List.drop_eq_nil_of_le (show rs.length ≤ i by omega), pcs, pend, mk.eq_def]
      simp only [redlineref21_Merge.l1, if_neg (show ¬ (i : Int) < (l.length : Int) by omega), if_pos h0, if_pos h1]
      refine Ev.bind (lines_ev (a.drop at_.toNat) (by rw [List.length_drop]; omega) (fun x hx => has x (List.mem_of_mem_drop hx))) ?_
      refine Ev_bind_some (J_add s _ (by omega) (by have := A_end a ha has at_.toNat; omega)) ?_
      exact Ev.now _
    | succ d ih =>
      intro i s at_ bt_ hi hz h0 h1 h2 hch
      apply Ev_unfold
      have o2 : i < 4611686018427387904 := by omega
      rw [dropC l i (by omega)] at hch ⊢
      rw [dropB rs i (by omega)]
      obtain ⟨c, hcc⟩ : ∃ c, l.getD i zc = c := ⟨_, rfl⟩
      obtain ⟨r, hr⟩ : ∃ r, rs.getD i false = r := ⟨_, rfl⟩
      rw [hcc] at hch ⊢
      rw [hr]
      obtain ⟨s0, s1, s2, s3, q0, q1, q2, q3, q4⟩ := hch
      unfold Small at s0 s1 s2 s3
      have e1 : wrap64 (c.f0 + c.f1) = c.f0 + c.f1 := w64 _ (by omega)
      have e2 : wrap64 (c.f2 + c.f3) = c.f2 + c.f3 := w64 _ (by omega)
      have hxl : (rs.map lr).length = l.length := by rw [List.length_map, hrs]
      have a1 := A_le a b ha hb has hbs at_ c.f0
      have a2 := A_le a b ha hb has hbs c.f0 (c.f0 + c.f1)
      have a3 := A_le a b ha hb has hbs c.f2 (c.f2 + c.f3)
      simp only [redlineref21_Merge.l1, if_pos (show (i : Int) < (l.length : Int) by omega), if_pos (show (0 : Int) ≤ (i : Int) by omega), rdCh_nat, hcc, if_pos h0, if_pos q0, if_pos (show c.f0 ≤ (a.length : Int) by omega), if_pos (show (0 : Int) ≤ c.f0 by omega), e1, e2, if_pos (show c.f0 ≤ c.f0 + c.f1 by omega), if_pos q2, if_pos (show (0 : Int) ≤ c.f2 by omega), if_pos (show c.f2 ≤ c.f2 + c.f3 by omega), if_pos q3, if_pos (show (i : Int) < ((rs.map lr).length : Int) by omega), rdS_nat, map_lr rs i (by omega), hr, said_lr, wadd i o2]
      refine Ev.bind (lines_ev (cut a at_ c.f0) (Nat.le_trans (cut_le _ _ _) (by omega)) (fun x hx => has x (cut_mem hx))) ?_
      have z1 := J_size s (A (cut a at_ c.f0) be)
      refine Ev_bind_some (J_add s (A (cut a at_ c.f0) be) (by omega) (by omega)) ?_
      refine Ev.bind (lines_ev (cut a c.f0 (c.f0 + c.f1)) (Nat.le_trans (cut_le _ _ _) (by omega)) (fun x hx => has x (cut_mem hx))) ?_
      refine Ev.bind (lines_ev (cut b c.f2 (c.f2 + c.f3)) (Nat.le_trans (cut_le _ _ _) (by omega)) (fun x hx => hbs x (cut_mem hx))) ?_
      simp only [bsome]
      have z3 : (if r = true then A (cut b c.f2 (c.f2 + c.f3)) be else A (cut a c.f0 (c.f0 + c.f1)) be).size ≤ 100000000 := by split <;> omega
      have z2 := J_size (J s (A (cut a at_ c.f0) be)) (if r = true then A (cut b c.f2 (c.f2 + c.f3)) be else A (cut a c.f0 (c.f0 + c.f1)) be)
      refine Ev_bind_some (J_add (J s (A (cut a at_ c.f0) be)) (if r = true then A (cut b c.f2 (c.f2 + c.f3)) be else A (cut a c.f0 (c.f0 + c.f1)) be) (by omega) (by omega)) ?_
      have h := ih (i + 1) (J (J s (A (cut a at_ c.f0) be)) (if r = true then A (cut b c.f2 (c.f2 + c.f3)) be else A (cut a c.f0 (c.f0 + c.f1)) be)) (c.f0 + c.f1) (c.f2 + c.f3) (by omega) (by rw [Nat.succ_mul]; omega) (by omega) (by omega) (by omega) q4
      rw [pcs, pend, mk]
      exact h
  have go0 : ∀ (d i : Nat), i + d = rs.length → Ev (fun k => redlineref21_Merge.l0 k l a b (rs.map lr) (i : Int)) (J (mk nx (pcs a b l 0) rs be) (A (a.drop (pend l 0).toNat) be), 0) := by
    intro d
    have hxl : (rs.map lr).length = l.length := by rw [List.length_map, hrs]
    induction d with
    | zero =>
      intro i hi
      apply Ev_unfold
      simp only [redlineref21_Merge.l0, if_neg (show ¬ (i : Int) < ((rs.map lr).length : Int) by omega), if_neg (show ¬ ((rs.map lr).length : Int) < (l.length : Int) by omega), if_neg (show ¬ ((rs.map lr).length : Int) > (l.length : Int) by omega)]
      exact go1 l.length 0 be 0 0 (by omega) (by decide) (by omega) (by omega) (by omega) hcn
    | succ d ih =>
      intro i hi
      apply Ev_unfold
      have o2 : i < 4611686018427387904 := by omega
      simp only [redlineref21_Merge.l0, if_pos (show (i : Int) < ((rs.map lr).length : Int) by omega), if_pos (show (0 : Int) ≤ (i : Int) by omega), rdS_nat, map_lr rs i (by omega), said_lr, bsome, wadd i o2, if_true]
      exact ih (i + 1) (by omega)
  unfold redlineref21_Merge.f
  refine Ev.bind (H11.check_r (a.length : Int) (b.length : Int) (by omega) (by omega) l (by omega)) ?_
  rw [hc]
  exact go0 rs.length 0 (by omega)
theorem round (l : List Ch) (want : ByteArray) (hl : l.length ≤ 10) (hc : cko (a.length : Int) (b.length : Int) l true 0 0 = 0) (hcn : Chn a.length b.length 0 0 l) (q : Nat) (hq : q < 2 ^ l.length) (R : List ByteArray × Bool)
    (h1 : okf want (A (a.drop (pend l 0).toNat) be) (mk nx (pcs a b l 0) (bits l.length q) be) = true → R = ((bits l.length q).map lr, true))
    (h2 : okf want (A (a.drop (pend l 0).toNat) be) (mk nx (pcs a b l 0) (bits l.length q) be) = false → Ev (fun k => redlineref21_Answers.l0 k l a b want (l.length : Int) ((q + 1 : Nat) : Int)) R) :
    Ev (fun k => redlineref21_Answers.l0 k l a b want (l.length : Int) (q : Int)) R := by
  have hq10 : 2 ^ l.length ≤ 2 ^ 10 := Nat.pow_le_pow_right (by omega) hl
  have hbl := bits_len l.length q
  have go : ∀ (d i : Nat), i + d = l.length → Ev (fun k => redlineref21_Answers.l1 k l a b want (l.length : Int) (q : Int) (((bits l.length q).take i).map lr) (i : Int)) R := by
    intro d
    induction d with
    | zero =>
      intro i hi
      apply Ev_unfold
      rw [List.take_of_length_le (by omega)]
      simp only [redlineref21_Answers.l1, if_neg (show ¬ (i : Int) < (l.length : Int) by omega)]
      refine Ev.bind (merge_ev a b ha hb has hbs l hl hc hcn (bits l.length q) hbl) ?_
      have o2 : q < 4611686018427387904 := by omega
      simp only [if_true, wadd q o2]
      cases hok : okf want (A (a.drop (pend l 0).toNat) be) (mk nx (pcs a b l 0) (bits l.length q) be) with
      | true =>
        rw [h1 hok]
        simp only [if_pos ((str_eq _ _).2 (of_decide_eq_true hok))]
        exact Ev.now _
      | false =>
        simp only [if_neg (mt (str_eq _ _).1 (of_decide_eq_false hok))]
        exact h2 hok
    | succ d ih =>
      intro i hi
      apply Ev_unfold
      have o2 : i < 4611686018427387904 := by omega
      have e1 : wrap64 ((wrap64 ((l.length : Int) - 1)) - (i : Int)) = ((l.length - 1 - i : Nat) : Int) := by
        rw [w64 ((l.length : Int) - 1) (by omega), w64 _ (by omega)]; omega
      have hln : (((bits l.length q).take i).map lr).length < 8796093022208 := by rw [List.length_map, List.length_take]; omega
      have hb := bits_get l.length q i (by omega) hq
      have hs : ((bits l.length q).take (i + 1)).map lr = ((bits l.length q).take i).map lr ++ [lr (q.testBit (l.length - 1 - i))] := by
        have hil : i < (bits l.length q).length := by omega
        rw [List.take_succ_eq_append_getElem hil, List.map_append, List.map_cons, List.map_nil]
        rw [List.getD_eq_getElem?_getD, List.getElem?_eq_getElem hil, Option.getD_some] at hb
        rw [hb]
      have h := ih (i + 1) (by omega)
      rw [hs] at h
      simp only [redlineref21_Answers.l1, if_pos (show (i : Int) < (l.length : Int) by omega), e1, if_pos (show (0 : Int) ≤ ((l.length - 1 - i : Nat) : Int) by omega), if_pos hln, wadd i o2]
      cases hbit : q.testBit (l.length - 1 - i) with
      | false =>
        rw [hbit] at h
        simp only [if_pos ((shr_bit q (l.length - 1 - i) (by omega)).2 hbit)]
        exact h
      | true =>
        rw [hbit] at h
        have hne : ¬ Int.tmod (shr .i64 (q : Int) ((l.length - 1 - i : Nat) : Int)) 2 = 0 := by
          intro e
          have h5 := (shr_bit q (l.length - 1 - i) (by omega)).1 e
          rw [hbit] at h5
          exact Bool.noConfusion h5
        simp only [if_neg hne]
        exact h
  apply Ev_unfold
  simp only [redlineref21_Answers.l0, if_pos (show (0 : Int) ≤ (l.length : Int) by omega), shl_one l.length hl, if_pos (show (q : Int) < ((2 ^ l.length : Nat) : Int) by omega)]
  have h := go l.length 0 (by omega)
  rw [List.take_zero] at h
  exact h
theorem ref_ev (l : List Ch) (want : ByteArray) (hl : l.length ≤ 10) :
    Ev (fun k => redlineref21_Answers.f k l a b want) (if cko (a.length : Int) (b.length : Int) l true 0 0 = 0 then (match first nx (okf want (A (a.drop (pend l 0).toNat) be)) (pcs a b l 0) be with | some rs => (rs.map lr, true) | none => ([], false)) else ([], false)) := by
  unfold redlineref21_Answers.f
  refine Ev.bind (H11.check_r (a.length : Int) (b.length : Int) (by omega) (by omega) l (by omega)) ?_
  by_cases hc : cko (a.length : Int) (b.length : Int) l true 0 0 = 0
  case neg => simp only [if_neg hc]; exact Ev.now _
  simp only [if_pos hc]
  have hcn : Chn a.length b.length 0 0 l := chn_of l true 0 0 (by unfold cko at hc; by_cases e : H11.chk (a.length : Int) (b.length : Int) l true 0 0 = true
                                                                  · exact e
                                                                  · rw [if_neg e] at hc; omega)
  have hpl := pcs_len a b l 0
  cases hf : first nx (okf want (A (a.drop (pend l 0).toNat) be)) (pcs a b l 0) be with
  | none =>
    have hn := first_none nx _ _ _ hf
    rw [hpl] at hn
    have go : ∀ (d q : Nat), q + d = 2 ^ l.length → Ev (fun k => redlineref21_Answers.l0 k l a b want (l.length : Int) (q : Int)) (([], false) : List ByteArray × Bool) := by
      intro d
      induction d with
      | zero =>
        intro q hq
        apply Ev_unfold
        simp only [redlineref21_Answers.l0, if_pos (show (0 : Int) ≤ (l.length : Int) by omega), shl_one l.length hl, if_neg (show ¬ (q : Int) < ((2 ^ l.length : Nat) : Int) by omega)]
        exact Ev.now _
      | succ d ih =>
        intro q hq
        refine round a b ha hb has hbs l want hl hc hcn q (by omega) _ (fun h => ?_) (fun _ => ih (q + 1) (by omega))
        rw [hn q (by omega)] at h
        cases h
    exact go (2 ^ l.length) 0 (by omega)
  | some rs =>
    obtain ⟨k0, g1, g2, g3, g4⟩ := first_some nx _ _ _ _ hf
    rw [hpl] at g1 g2 g4
    have go : ∀ (d q : Nat), q + d = k0 → Ev (fun k => redlineref21_Answers.l0 k l a b want (l.length : Int) (q : Int)) ((rs.map lr, true) : List ByteArray × Bool) := by
      intro d
      induction d with
      | zero =>
        intro q hq
        obtain rfl : q = k0 := by omega
        refine round a b ha hb has hbs l want hl hc hcn q g1 _ (fun _ => by rw [g2]) (fun h => ?_)
        rw [g2, g3] at h
        cases h
      | succ d ih =>
        intro q hq
        refine round a b ha hb has hbs l want hl hc hcn q (by omega) _ (fun h => ?_) (fun _ => ih (q + 1) (by omega))
        rw [g4 q (by omega)] at h
        cases h
    exact go k0 0 (by omega)
theorem prog_ev (l : List Ch) (want : ByteArray) (hl : l.length ≤ 10) (hw : want.size ≤ 10000000) :
    Ev (fun k => sdiff_Answers.f k l a b want) (if cko (a.length : Int) (b.length : Int) l true 0 0 = 0 then (match first nx (okf want (A (a.drop (pend l 0).toNat) be)) (pcs a b l 0) be with | some rs => (rs.map lr, true) | none => ([], false)) else ([], false)) := by
  unfold sdiff_Answers.f
  refine Ev.bind (H11.check_p (a.length : Int) (b.length : Int) (by omega) (by omega) l (by omega)) ?_
  by_cases hc : cko (a.length : Int) (b.length : Int) l true 0 0 = 0
  case neg => simp only [if_neg hc]; exact Ev.now _
  simp only [if_pos hc]
  have hcn : Chn a.length b.length 0 0 l := chn_of l true 0 0 (by unfold cko at hc; by_cases e : H11.chk (a.length : Int) (b.length : Int) l true 0 0 = true
                                                                  · exact e
                                                                  · rw [if_neg e] at hc; omega)
  refine Ev.bind (pieces_ev a b ha hb has hbs l hl hcn) ?_
  have hpl := pcs_len a b l 0
  have z1 := A_end a ha has (pend l 0).toNat
  simp only [if_pos (show (pcs a b l 0).length ≤ 10 ∧ want.size ≤ 1000000000000 by omega)]
  obtain ⟨R, e1, _, e2⟩ := try_spec want (A (a.drop (pend l 0).toNat) be) (pcs a b l 0) hw z1 (pcs_le a b ha hb has hbs l 0) (pcs a b l 0) 0 0 (fun _ _ => false) [] rfl rfl (by omega) (by omega) (fun j m _ _ h => by cases h)
  have e0 : want.extract 0 (0 : Int).toNat = be := by
    apply bytes_eq
    have h := Lib.extract_toList want 0 0
    rw [Lib.toList_data] at h
    show (want.extract 0 0).data.toList = _
    rw [h]
    rfl
  rw [e0] at e2
  refine Ev_bind_some e1 ?_
  cases hf : first nx (okf want (A (a.drop (pend l 0).toNat) be)) (pcs a b l 0) be with
  | some rs =>
    rw [hf] at e2
    simp only [if_pos e2.1, e2.2, List.nil_append]
    exact Ev.now _
  | none =>
    rw [hf] at e2
    simp only [e2.1, Bool.false_eq_true, if_false]
    exact Ev.now _
end
theorem answers_all (l : List Ch) (a b : List ByteArray) (want : ByteArray) (has : ∀ s ∈ a, s.size ≤ 1048576) (hbs : ∀ s ∈ b, s.size ≤ 1048576) (hw : want.size ≤ 10000000) : Ev (fun k => redlinelaw21_SdiffAnswers.f k l a b want) true := by
  have yes : Ev (fun k => redlinelaw21_SdiffAnswers.j0 k l a b want true) true := by
    apply Ev_unfold
    simp only [redlinelaw21_SdiffAnswers.j0, if_true]
    exact Ev.now _
  unfold redlinelaw21_SdiffAnswers.f
  by_cases h1 : (l.length : Int) > 10
  · simp only [if_pos h1]; exact yes
  simp only [if_neg h1]
  by_cases h2 : (a.length : Int) > 60
  · simp only [if_pos h2]; exact yes
  simp only [if_neg h2]
  by_cases h3 : (b.length : Int) > 60
  · simp only [decide_eq_true h3]; exact yes
  simp only [decide_eq_false h3]
  have p := prog_ev a b (by omega) (by omega) has hbs l want (by omega) hw
  have r := ref_ev a b (by omega) (by omega) has hbs l want (by omega)
  obtain ⟨X, hX⟩ : ∃ X : List ByteArray × Bool, (if cko (a.length : Int) (b.length : Int) l true 0 0 = 0 then (match first nx (okf want (A (a.drop (pend l 0).toNat) be)) (pcs a b l 0) be with | some rs => (rs.map lr, true) | none => ([], false)) else ([], false)) = X := ⟨_, rfl⟩
  have hXl : X.1.length ≤ 10 := by
    rw [← hX]
    split
    · split
      · rename_i rs hf
        have := first_len nx _ _ _ _ hf
        rw [pcs_len] at this
        show (rs.map lr).length ≤ 10
        rw [List.length_map]
        omega
      · show (0 : Nat) ≤ 10
        omega
    · show (0 : Nat) ≤ 10
      omega
  rw [hX] at p r
  apply Ev_unfold
  simp only [redlinelaw21_SdiffAnswers.j0, Bool.false_eq_true, if_false]
  refine Ev.bind p ?_
  refine Ev.bind r ?_
  simp only [beq_self_eq_true, if_true]
  refine Ev.bind (eq_r X.1 X.1 (by omega)) ?_
  rw [decide_eq_true rfl]
  exact Ev.now _
end H21
end Go.Proofs.Ytglffceopijogaa.Q
