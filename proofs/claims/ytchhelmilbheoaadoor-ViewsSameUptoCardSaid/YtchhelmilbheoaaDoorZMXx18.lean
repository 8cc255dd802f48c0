import Derived.Test.YtchhelmilbheoaaDoorZMXx0
import Derived.Lib.OthersKept
import Derived.Lib.Strings
namespace Go.Proofs.YtchhelmilbheoaaDoor.X
open Go.RowKit Go.Proofs.YtchhelmilbheoaaDoorW.PrintWords Go.Proofs.YtchhelmilbheoaaDoorW.PrintLast Go.Proofs.YtchhelmilbheoaaDoorW.PrintMore
attribute [local go_sem] max2_int min2_int max_two min_two max_three min_three max_four min_four   -- for this text's walks alone
open Go.Proofs.YtchhelmilbheoaaDoorW.HandWords
set_option linter.unusedVariables false
set_option linter.unusedSimpArgs false
def nm_let (c : Int) : Bool := c == 95 || (decide (97 ≤ c) && decide (c ≤ 122)) || (decide (65 ≤ c) && decide (c ≤ 90))
def nm_dig (c : Int) : Bool := decide (48 ≤ c) && decide (c ≤ 57)
def nm_go : List UInt8 → Bool → Bool
  | [], _ => true
  | c :: l, f => (nm_let (c.toNat : Int) || (!f && nm_dig (c.toNat : Int))) && nm_go l false
def views_named.f (a0 : ByteArray) : Option Bool := if a0.size ≤ 1000000000000000 then some (nm_go a0.data.toList true && (decide (¬ a0.size = 0) && decide (a0.size ≤ 64))) else none
theorem nm_drop (s : ByteArray) (pos : Nat) (h : pos < s.size) : s.data.toList.drop pos = (s[pos]'h) :: s.data.toList.drop (pos + 1) := by
  have hl : pos < s.data.toList.length := by rw [Array.length_toList]; exact h
  rw [List.drop_eq_getElem_cons hl]
  rfl
set_option maxHeartbeats 8000000 in
set_option maxRecDepth 100000 in
theorem views_named.calls (a0 : ByteArray) (r : Bool) (w : World) (h : views_named.f a0 = some r) :
    Calls Tryd.prog 18 #[.string a0] w fun e w' => e = .returned (.bool r) ∧ Below w.heap.size w w' := by
  unfold views_named.f at h
  by_cases hs : a0.size ≤ 1000000000000000
  case neg => rw [if_neg hs] at h; cases h
  rw [if_pos hs] at h
  have hr := Option.some.inj h
  clear h
  have HR := Aside0.mk hr
  clear hr
  go_enter Tryd.func18, Tryd.ntmps18
  go_wp2
  go_loopw [] (fun wr => ∃ pos : Nat, wr.heap[w.heap.size]? = some (.stringIter a0 pos) ∧ Below w.heap.size w wr ∧ Aside0 (nm_go a0.data.toList true = nm_go (a0.data.toList.drop pos) (decide (pos = 0))) ∧ pos ≤ a0.size) (fun wr => a0.size - wr.iterPos w.heap.size)
  case atStart =>
    exact ⟨0, World.iter_heap w a0 0, (Below.refl _ w).alloc (Nat.le_refl _) _, ⟨by rw [List.drop_zero]; rfl⟩, Nat.zero_le _⟩
  case round =>
    obtain ⟨pos, hit, hbw, HN, hle⟩ := hrel
    by_cases hp : pos < a0.size
    · have hd := nm_drop a0 pos hp
      have HN2 := Aside0.mk (HN.out.trans (by rw [hd, nm_go]))
      obtain ⟨c, hc⟩ : ∃ c : Int, ((a0[pos]'hp).toNat : Int) = c := ⟨_, rfl⟩
      rw [hc] at HN2
      clear HN hd
      have hit2 := Lib.iterAt_heap wr w.heap.size a0 pos
      by_cases hb : (a0[pos]'hp).toNat < 128
      · have hnx : ∀ ty, (Instr.next (.pointer (some ⟨w.heap.size, 0, none⟩)) true ty).run Tryd.prog wr = .ok (.tuple #[.bool true, .int .i64 pos, .int .i32 c]) (wr.iterAt w.heap.size a0 (pos + 1)) := fun ty => by rw [← hc]; exact Lib.run_next_ascii_at wr w.heap.size a0 pos ty hit hp hb
        have n1_ := hit2 (pos + 1) hit
        have n2_ := Lib.below_iterAt hbw (k := w.heap.size) (Nat.le_refl _) a0 (pos + 1)
        have hme : a0.size - (wr.iterAt w.heap.size a0 (pos + 1)).iterPos w.heap.size < a0.size - wr.iterPos w.heap.size := by simp only [World.iterPos, n1_, hit]; omega
        have N1 := Aside0.mk n1_
        have N2 := Aside0.mk n2_
        have ME := Aside0.mk hme
        have HP := Aside0.mk hp
        clear hit hbw hit2 n1_ n2_ hme hle hb hc
        generalize wr.iterAt w.heap.size a0 (pos + 1) = w2 at N1 N2 ME hnx
        by_cases hl : nm_let c = true
        · have HL := Aside0.mk hl
          have h3 : c = 95 ∨ (c ≠ 95 ∧ 97 ≤ c ∧ c ≤ 122) ∨ (c ≠ 95 ∧ ¬ 97 ≤ c ∧ 65 ≤ c ∧ c ≤ 90) := by
            unfold nm_let at hl
            simp only [Bool.or_eq_true, Bool.and_eq_true, beq_iff_eq, decide_eq_true_eq] at hl
            omega
          have hrl : Aside0 (nm_go a0.data.toList true = nm_go (a0.data.toList.drop (pos + 1)) (decide (pos + 1 = 0))) := ⟨by rw [HN2.out, hl, Bool.true_or, Bool.true_and]; rfl⟩
          clear hl
          rcases h3 with h3 | ⟨h3, h4, h5⟩ | ⟨h3, h4, h5, h6⟩
          · have f1 : (c == 95) = true := beq_iff_eq.mpr h3
            clear h3 hp
            go_wp2
            go_roundw
            case rel => exact ⟨pos + 1, N1.out, N2.out, hrl, HP.out⟩
            case measure => exact ME.out
          · have f1 : (c == 95) = false := beq_eq_false_iff_ne.mpr h3
            have f2 : decide (97 ≤ c) = true := decide_eq_true h4
            have f3 : decide (c ≤ 122) = true := decide_eq_true h5
            clear h3 h4 h5 hp
            go_wp2
            go_roundw
            case rel => exact ⟨pos + 1, N1.out, N2.out, hrl, HP.out⟩
            case measure => exact ME.out
          · have f1 : (c == 95) = false := beq_eq_false_iff_ne.mpr h3
            have f2 : decide (97 ≤ c) = false := decide_eq_false h4
            have f3 : decide (65 ≤ c) = true := decide_eq_true h5
            have f4 : decide (c ≤ 90) = true := decide_eq_true h6
            clear h3 h4 h5 h6 hp
            go_wp2
            go_roundw
            case rel => exact ⟨pos + 1, N1.out, N2.out, hrl, HP.out⟩
            case measure => exact ME.out
        · have HL := Aside0.mk (show nm_let c = false by simpa using hl)
          have h3 : c ≠ 95 ∧ (¬ 97 ≤ c ∨ (97 ≤ c ∧ ¬ c ≤ 122)) ∧ (¬ 65 ≤ c ∨ (65 ≤ c ∧ ¬ c ≤ 90)) := by
            unfold nm_let at hl
            simp only [Bool.or_eq_true, Bool.and_eq_true, beq_iff_eq, decide_eq_true_eq] at hl
            omega
          clear hl
          obtain ⟨h3, h4, h5⟩ := h3
          have f1 : (c == 95) = false := beq_eq_false_iff_ne.mpr h3
          obtain ⟨q2, q3, h4q⟩ : ∃ q2 q3 : Bool, decide (97 ≤ c) = q2 ∧ decide (c ≤ 122) = q3 := ⟨_, _, rfl, rfl⟩
          obtain ⟨f2, f3⟩ := h4q
          obtain ⟨q4, q5, h5q⟩ : ∃ q4 q5 : Bool, decide (65 ≤ c) = q4 ∧ decide (c ≤ 90) = q5 := ⟨_, _, rfl, rfl⟩
          obtain ⟨f4, f5⟩ := h5q
          have e4 : q2 = false ∨ (q2 = true ∧ q3 = false) := by rw [← f2, ← f3]; exact h4.elim (fun h => .inl (decide_eq_false h)) (fun h => .inr ⟨decide_eq_true h.1, decide_eq_false h.2⟩)
          have e5 : q4 = false ∨ (q4 = true ∧ q5 = false) := by rw [← f4, ← f5]; exact h5.elim (fun h => .inl (decide_eq_false h)) (fun h => .inr ⟨decide_eq_true h.1, decide_eq_false h.2⟩)
          clear h4 h5
          by_cases h0 : pos = 0
          · have f0 : ((pos : Int) == 0) = true := beq_iff_eq.mpr (by omega)
            have hfin : Aside0 (r = false) := ⟨by rw [← HR.out, HN2.out, HL.out, decide_eq_true h0]; rfl⟩
            clear h0 h3 hp
            rcases e4 with rfl | ⟨rfl, rfl⟩ <;> rcases e5 with rfl | ⟨rfl, rfl⟩
            all_goals go_wp2
            all_goals go_ret
            all_goals exact ⟨by rw [hfin.out]; rfl, N2.out⟩
          · have f0 : ((pos : Int) == 0) = false := beq_eq_false_iff_ne.mpr (by omega)
            by_cases hdg : nm_dig c = true
            · have g1 : decide (c < 48) = false := by unfold nm_dig at hdg; simp only [Bool.and_eq_true, decide_eq_true_eq] at hdg; exact decide_eq_false (by omega)
              have g2 : decide (57 < c) = false := by unfold nm_dig at hdg; simp only [Bool.and_eq_true, decide_eq_true_eq] at hdg; exact decide_eq_false (by omega)
              have hrl : Aside0 (nm_go a0.data.toList true = nm_go (a0.data.toList.drop (pos + 1)) (decide (pos + 1 = 0))) := ⟨by rw [HN2.out, HL.out, hdg, decide_eq_false h0]; rfl⟩
              clear h0 h3 hp hdg
              rcases e4 with rfl | ⟨rfl, rfl⟩ <;> rcases e5 with rfl | ⟨rfl, rfl⟩
              all_goals go_wp2
              all_goals go_roundw
              all_goals first | (case rel => exact ⟨pos + 1, N1.out, N2.out, hrl, HP.out⟩) | skip
              all_goals exact ME.out
            · have hdf : nm_dig c = false := by simpa using hdg
              have hfin : Aside0 (r = false) := ⟨by rw [← HR.out, HN2.out, HL.out, hdf, Bool.and_false]; rfl⟩
              have hg : c < 48 ∨ (¬ c < 48 ∧ 57 < c) := by unfold nm_dig at hdg; simp only [Bool.and_eq_true, decide_eq_true_eq] at hdg; omega
              clear h0 h3 hp hdg hdf
              rcases hg with hg | ⟨hg, hg2⟩
              · have g1 : decide (c < 48) = true := decide_eq_true hg
                clear hg
                rcases e4 with rfl | ⟨rfl, rfl⟩ <;> rcases e5 with rfl | ⟨rfl, rfl⟩
                all_goals go_wp2
                all_goals go_ret
                all_goals exact ⟨by rw [hfin.out]; rfl, N2.out⟩
              · have g1 : decide (c < 48) = false := decide_eq_false hg
                have g2 : decide (57 < c) = true := decide_eq_true hg2
                clear hg hg2
                rcases e4 with rfl | ⟨rfl, rfl⟩ <;> rcases e5 with rfl | ⟨rfl, rfl⟩
                all_goals go_wp2
                all_goals go_ret
                all_goals exact ⟨by rw [hfin.out]; rfl, N2.out⟩
      · have hdh := decode_high a0 pos hp (by omega)
        have hnx : ∀ ty, (Instr.next (.pointer (some ⟨w.heap.size, 0, none⟩)) true ty).run Tryd.prog wr = .ok (.tuple #[.bool true, .int .i64 pos, .int .i32 ((Utf8.decode a0 pos).1 : Int)]) (wr.iterAt w.heap.size a0 (pos + (Utf8.decode a0 pos).2)) := fun ty => Lib.run_next_any_at wr w.heap.size a0 pos ty hit hp
        have N2 := Aside0.mk (Lib.below_iterAt hbw (k := w.heap.size) (Nat.le_refl _) a0 (pos + (Utf8.decode a0 pos).2))
        obtain ⟨d, hd⟩ : ∃ d : Int, ((Utf8.decode a0 pos).1 : Int) = d := ⟨_, rfl⟩
        rw [hd] at hnx
        have hd1 : 128 ≤ d := by have := hdh.1; omega
        have hl : nm_let c = false := by unfold nm_let; simp only [Bool.or_eq_false_iff, Bool.and_eq_false_iff, beq_eq_false_iff_ne, decide_eq_false_iff_not]; omega
        have hg : nm_dig c = false := by unfold nm_dig; simp only [Bool.and_eq_false_iff, decide_eq_false_iff_not]; omega
        have hfin : Aside0 (r = false) := ⟨by rw [← HR.out, HN2.out, hl, hg, Bool.and_false]; rfl⟩
        have f1 : (d == 95) = false := beq_eq_false_iff_ne.mpr (by omega)
        have f2 : decide (97 ≤ d) = true := decide_eq_true (by omega)
        have f3 : decide (d ≤ 122) = false := decide_eq_false (by omega)
        have f4 : decide (65 ≤ d) = true := decide_eq_true (by omega)
        have f5 : decide (d ≤ 90) = false := decide_eq_false (by omega)
        have g1 : decide (d < 48) = false := decide_eq_false (by omega)
        have g2 : decide (57 < d) = true := decide_eq_true (by omega)
        clear hit hbw hit2 hle hb hc hdh hl hg hp hd1
        generalize wr.iterAt w.heap.size a0 (pos + (Utf8.decode a0 pos).2) = w2 at N2 hnx
        by_cases h0 : pos = 0
        · have f0 : ((pos : Int) == 0) = true := beq_iff_eq.mpr (by omega)
          clear h0
          go_wp2
          go_ret
          exact ⟨by rw [hfin.out]; rfl, N2.out⟩
        · have f0 : ((pos : Int) == 0) = false := beq_eq_false_iff_ne.mpr (by omega)
          clear h0
          go_wp2
          go_ret
          exact ⟨by rw [hfin.out]; rfl, N2.out⟩
    · have hnx : ∀ ty, (Instr.next (.pointer (some ⟨w.heap.size, 0, none⟩)) true ty).run Tryd.prog wr = .ok (.tuple #[.bool false]) wr := fun ty => Lib.run_next_end_at wr w.heap.size a0 pos ty hit hp
      have hall : nm_go a0.data.toList true = true := by rw [HN.out, List.drop_eq_nil_of_le (by rw [Array.length_toList]; exact Nat.le_of_not_lt hp)]; rfl
      have HB := Aside0.mk hbw
      have hz : (a0.toList == []) = decide (a0.size = 0) := by
        rw [Lib.toList_data, Lib.size_eq]
        cases a0.data.toList with
        | nil => rfl
        | cons x l => rfl
      have hr2 : (decide (¬ a0.size = 0) && decide (a0.size ≤ 64)) = r := by rw [← HR.out, hall, Bool.true_and]
      clear hit hbw HN hle hp HR
      by_cases h0 : a0.size = 0
      · have f0 : (a0.toList == []) = true := by rw [hz]; exact decide_eq_true h0
        have hfin : Aside0 (r = false) := ⟨by rw [← hr2, h0]; rfl⟩
        clear hz hr2 h0
        go_wp2
        go_ret
        exact ⟨by rw [hfin.out]; rfl, HB.out⟩
      · have f0 : (a0.toList == []) = false := by rw [hz]; exact decide_eq_false h0
        by_cases h6 : a0.size ≤ 64
        · have f6 : decide ((a0.size : Int) ≤ 64) = true := decide_eq_true (by omega)
          have hfin : Aside0 (r = true) := ⟨by rw [← hr2, decide_eq_true h0, decide_eq_true h6]; rfl⟩
          clear hz hr2 h0 h6
          go_wp2
          go_ret
          exact ⟨by rw [hfin.out]; rfl, HB.out⟩
        · have f6 : decide ((a0.size : Int) ≤ 64) = false := decide_eq_false (by omega)
          have hfin : Aside0 (r = false) := ⟨by rw [← hr2, decide_eq_false h6, Bool.and_false]⟩
          clear hz hr2 h0 h6
          go_wp2
          go_ret
          exact ⟨by rw [hfin.out]; rfl, HB.out⟩
end Go.Proofs.YtchhelmilbheoaaDoor.X
