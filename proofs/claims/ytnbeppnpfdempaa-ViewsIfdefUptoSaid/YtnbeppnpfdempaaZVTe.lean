/- plain: two texts laid into one: the program's answer and the reference's; the law's function is true -/
import Derived.Test.YtnbeppnpfdempaaZVTd
import Derived.Test.YtnbeppnpfdempaaZVXx13
import Derived.Test.YtnbeppnpfdempaaZVXx15
import Derived.Test.YtnbeppnpfdempaaZVXx17
import Derived.Test.YtnbeppnpfdempaaZVXx22
import Derived.Test.YtnbeppnpfdempaaZVXx23
import Derived.Test.YtnbeppnpfdempaaZVXx3
namespace Go.Proofs.Ytnbeppnpfdempaa.Q
set_option linter.unusedVariables false
set_option linter.unusedSimpArgs false
open Go.RowKit Go.Proofs.Ytnbeppnpfdempaa.X Go.Proofs.YtnbeppnpfdempaaW.PrintWords Go.Proofs.YtnbeppnpfdempaaW.PrintLast Go.Proofs.YtnbeppnpfdempaaW.PrintMore
namespace H17
open H11 (Ch Chn Small chn_of cko)
def IFN : ByteArray := ⟨#[35, 105, 102, 110, 100, 101, 102, 32]⟩
def IFD : ByteArray := ⟨#[35, 105, 102, 100, 101, 102, 32]⟩
def OTH : ByteArray := ⟨#[35, 101, 108, 115, 101, 32, 47, 42, 32]⟩
def END : ByteArray := ⟨#[35, 101, 110, 100, 105, 102, 32, 47, 42, 32]⟩
def ENDN : ByteArray := ⟨#[35, 101, 110, 100, 105, 102, 32, 47, 42, 32, 33, 32]⟩
def CL : ByteArray := ⟨#[32, 42, 47, 10]⟩
def NL : ByteArray := ⟨#[10]⟩
def g0 (nm : ByteArray) : ByteArray := (IFD ++ nm) ++ NL
def g1 (nm : ByteArray) : ByteArray := (IFN ++ nm) ++ NL
def g2 (nm : ByteArray) : ByteArray := (OTH ++ nm) ++ CL
def g3 (nm : ByteArray) : ByteArray := (END ++ nm) ++ CL
def g4 (nm : ByteArray) : ByteArray := (ENDN ++ nm) ++ CL
theorem of_eq (nm : ByteArray) (h : nm.size ≤ 1048576) : views_of.f nm = some (g0 nm, g1 nm, g2 nm, g3 nm, g4 nm) := by
  have hz : ∀ p : ByteArray, ∀ n : Nat, p.size ≤ 100 → n ≤ 10 → (p ++ nm).size + n ≤ 9223372036854775807 := fun p n h1 h2 => by rw [ByteArray.size_append]; omega
  unfold views_of.f
  rw [if_pos (by omega), if_pos (hz _ _ (by decide) (by decide)), if_pos (by omega), if_pos (hz _ _ (by decide) (by decide)), if_pos (by omega), if_pos (hz _ _ (by decide) (by decide)), if_pos (by omega), if_pos (hz _ _ (by decide) (by decide)), if_pos (by omega), if_pos (hz _ _ (by decide) (by decide))]
  rfl
theorem g_size (nm : ByteArray) (h : nm.size ≤ 1048576) : (g0 nm).size ≤ 1048600 ∧ (g1 nm).size ≤ 1048600 ∧ (g2 nm).size ≤ 1048600 ∧ (g3 nm).size ≤ 1048600 ∧ (g4 nm).size ≤ 1048600 := by
  unfold g0 g1 g2 g3 g4
  simp only [ByteArray.size_append]
  have e0 : IFN.size = 8 := rfl
  have e1 : IFD.size = 7 := rfl
  have e2 : OTH.size = 9 := rfl
  have e3 : END.size = 10 := rfl
  have e4 : ENDN.size = 12 := rfl
  have e5 : CL.size = 4 := rfl
  have e6 : NL.size = 1 := rfl
  omega
/-- what comes out, change by change -/
def fin (a b : List ByteArray) (nm : ByteArray) : List Ch → Int → List UInt8 → Int × List UInt8
  | [], at_, acc => (at_, acc)
  | c :: l, at_, acc => fin a b nm l (c.f0 + c.f1) (acc ++ wh (If.cut a at_ c.f0) ++ If.piece (g0 nm) (g1 nm) (g2 nm) (g3 nm) (g4 nm) c (wh (If.cut a c.f0 (c.f0 + c.f1))) (wh (If.cut b c.f2 (c.f2 + c.f3))))
theorem put_eq (nm : ByteArray) (c : Ch) (acc w1 w2 w3 : List UInt8) : Rf.put nm c ((⟨acc.toArray⟩ : ByteArray) ++ ⟨w1.toArray⟩) ⟨w2.toArray⟩ ⟨w3.toArray⟩ = ⟨(acc ++ w1 ++ If.piece (g0 nm) (g1 nm) (g2 nm) (g3 nm) (g4 nm) c w2 w3).toArray⟩ := by
  apply bytes_eq
  rw [dl]
  unfold Rf.put If.piece
  by_cases h1 : c.f3 = 0
  · rw [if_pos h1, if_pos h1]
    unfold g1 g4 IFN ENDN NL CL
    simp only [Go.Joins.data_append, dl, List.append_assoc]
  rw [if_neg h1, if_neg h1]
  by_cases h2 : c.f1 = 0
  · rw [if_pos h2, if_pos h2]
    unfold g0 g3 IFD END NL CL
    simp only [Go.Joins.data_append, dl, List.append_assoc]
  · rw [if_neg h2, if_neg h2]
    unfold g1 g2 g3 IFN OTH END NL CL
    simp only [Go.Joins.data_append, dl, List.append_assoc]
/-- the size of a text's first lines -/
def pl (a : List ByteArray) (n : Int) : Nat := (wh (a.take n.toNat)).length
theorem cut_len (a : List ByteArray) (i j : Int) (h0 : 0 ≤ i) (h : i ≤ j) : (wh (If.cut a i j)).length + pl a i = pl a j := by
  unfold pl If.cut
  have e : a.take j.toNat = a.take i.toNat ++ (a.take j.toNat).drop i.toNat := by
    have h1 := List.take_append_drop i.toNat (a.take j.toNat)
    rw [List.take_take, Nat.min_eq_left (by omega)] at h1
    exact h1.symm
  rw [e, wh_app, List.length_append, ← e]
  omega
theorem pl_mono (a : List ByteArray) (i j : Int) (h0 : 0 ≤ i) (h : i ≤ j) : pl a i ≤ pl a j := by
  have := cut_len a i j h0 h
  omega
theorem pl_all (a : List ByteArray) (i : Int) : pl a i ≤ (wh a).length := by
  unfold pl
  have e : a = a.take i.toNat ++ a.drop i.toNat := (List.take_append_drop ..).symm
  conv => rhs; rw [e, wh_app, List.length_append]
  omega
theorem drop_len (a : List ByteArray) (i : Int) : pl a i + (wh (a.drop i.toNat)).length = (wh a).length := by
  unfold pl
  have e : a = a.take i.toNat ++ a.drop i.toNat := (List.take_append_drop ..).symm
  conv => rhs; rw [e, wh_app, List.length_append]
theorem cut_mem {a : List ByteArray} {i j : Int} {s : ByteArray} (h : s ∈ If.cut a i j) : s ∈ a := List.mem_of_mem_take (List.mem_of_mem_drop h)
theorem cut_le (a : List ByteArray) (i j : Int) : (If.cut a i j).length ≤ a.length := by
  unfold If.cut
  rw [List.length_drop, List.length_take]
  omega
theorem piece_len (x0 x1 x2 x3 x4 : ByteArray) (c : Ch) (w2 w3 : List UInt8) : (If.piece x0 x1 x2 x3 x4 c w2 w3).length ≤ w2.length + w3.length + (x0.size + x1.size + x2.size + x3.size + x4.size) := by
  unfold If.piece
  split
  · simp only [List.length_append, ← Lib.size_eq]; omega
  · split
    · simp only [List.length_append, ← Lib.size_eq]; omega
    · simp only [List.length_append, ← Lib.size_eq]; omega
section
variable (a b : List ByteArray) (ha : a.length ≤ 1048576) (hb : b.length ≤ 1048576) (has : ∀ s ∈ a, s.size ≤ 1048576) (hbs : ∀ s ∈ b, s.size ≤ 1048576) (nm : ByteArray) (hn : nm.size ≤ 1048576) (N : Nat) (hN : N ≤ 1048576)
include ha hb has hbs hn hN
theorem go_both : ∀ (l : List Ch) (at_ bt_ : Int) (acc : List UInt8), Chn a.length b.length at_ bt_ l → 0 ≤ at_ → at_ ≤ (a.length : Int) → 0 ≤ bt_ → acc.length + l.length * 5243000 ≤ pl a at_ + pl b bt_ + N * 5243000 →
    If.go a b (g0 nm) (g1 nm) (g2 nm) (g3 nm) (g4 nm) l at_ acc = some (fin a b nm l at_ acc) ∧ Ev (fun k => Rf.go k a b nm l at_ ⟨acc.toArray⟩) ((fin a b nm l at_ acc).1, ⟨(fin a b nm l at_ acc).2.toArray⟩) ∧ 0 ≤ (fin a b nm l at_ acc).1 ∧ (fin a b nm l at_ acc).1 ≤ (a.length : Int) ∧ (fin a b nm l at_ acc).2.length ≤ pl a (fin a b nm l at_ acc).1 + (wh b).length + N * 5243000
  | [], at_, bt_, acc, _, h0, h1, h2, hac => by
    rw [If.go, fin]
    have h3 := pl_all b bt_
    refine ⟨rfl, Ev.now _, h0, h1, ?_⟩
    simp only [List.length_nil, Nat.zero_mul] at hac
    show acc.length ≤ pl a at_ + (wh b).length + N * 5243000
    omega
  | c :: l, at_, bt_, acc, hc, h0, h1, h2, hac => by
    obtain ⟨s0, s1, s2, s3, q0, q1, q2, q3, q4⟩ := hc
    unfold Small at s0 s1 s2 s3
    obtain ⟨z0, z1, z2, z3, z4⟩ := g_size nm hn
    have e1 := cut_len a at_ c.f0 h0 q0
    have e2 := cut_len a c.f0 (c.f0 + c.f1) (by omega) (by omega)
    have e3 := cut_len b c.f2 (c.f2 + c.f3) (by omega) (by omega)
    have e4 := pl_mono b bt_ c.f2 h2 q1
    have e5 := pl_all a (c.f0 + c.f1)
    have e6 := pl_all b (c.f2 + c.f3)
    have e7 := wh_len a has
    have e8 := wh_len b hbs
    have e9 := piece_len (g0 nm) (g1 nm) (g2 nm) (g3 nm) (g4 nm) c (wh (If.cut a c.f0 (c.f0 + c.f1))) (wh (If.cut b c.f2 (c.f2 + c.f3)))
    rw [List.length_cons] at hac
    have hnew : (acc ++ wh (If.cut a at_ c.f0) ++ If.piece (g0 nm) (g1 nm) (g2 nm) (g3 nm) (g4 nm) c (wh (If.cut a c.f0 (c.f0 + c.f1))) (wh (If.cut b c.f2 (c.f2 + c.f3)))).length + l.length * 5243000 ≤ pl a (c.f0 + c.f1) + pl b (c.f2 + c.f3) + N * 5243000 := by
      rw [List.length_append, List.length_append]
      omega
    obtain ⟨i1, i2, i3, i4, i5⟩ := go_both l (c.f0 + c.f1) (c.f2 + c.f3) _ q4 (by omega) q2 (by omega) hnew
    have hok : If.okc (a.length : Int) (b.length : Int) at_ c := ⟨h0, q0, s1.1, q2, s2.1, s3.1, q3⟩
    have hok2 : Rf.okc (a.length : Int) (b.length : Int) at_ c := ⟨h0, q0, s1.1, q2, s2.1, s3.1, q3⟩
    have m1 := all_p (If.cut a at_ c.f0) (fun s h => has s (cut_mem h))
    have m2 := all_p (If.cut a c.f0 (c.f0 + c.f1)) (fun s h => has s (cut_mem h))
    have m3 := all_p (If.cut b c.f2 (c.f2 + c.f3)) (fun s h => hbs s (cut_mem h))
    refine ⟨?_, ?_, ?_⟩
    · rw [If.go, if_pos hok, m1, bsome, m2, bsome, m3, bsome, if_pos (by omega)]
      exact i1
    · simp only [Rf.go, if_pos hok2]
      have w1 := cut_le a at_ c.f0
      have w2 := cut_le a c.f0 (c.f0 + c.f1)
      have w3 := cut_le b c.f2 (c.f2 + c.f3)
      refine Ev.bind (whole_r (If.cut a at_ c.f0) (by omega) (fun s h => has s (cut_mem h))) ?_
      refine Ev.bind (whole_r (If.cut a c.f0 (c.f0 + c.f1)) (by omega) (fun s h => has s (cut_mem h))) ?_
      refine Ev.bind (whole_r (If.cut b c.f2 (c.f2 + c.f3)) (by omega) (fun s h => hbs s (cut_mem h))) ?_
      have hsz : (⟨acc.toArray⟩ : ByteArray).size + (⟨(wh (If.cut a at_ c.f0)).toArray⟩ : ByteArray).size + (⟨(wh (If.cut a c.f0 (c.f0 + c.f1))).toArray⟩ : ByteArray).size + (⟨(wh (If.cut b c.f2 (c.f2 + c.f3))).toArray⟩ : ByteArray).size + nm.size ≤ 100000000000000 := by
        rw [bsz, bsz, bsz, bsz]; omega
      simp only [if_pos hsz]
      rw [put_eq]
      exact i2
    · exact ⟨i3, i4, i5⟩
end
/-- the text into which two are laid, or what is wrong -/
def ifd (l : List Ch) (a b : List ByteArray) (nm : ByteArray) : ByteArray × Int :=
  if cko a.length b.length l true 0 0 = 0 then (if nameok nm = true then (⟨((fin a b nm l 0 []).2 ++ wh (a.drop (fin a b nm l 0 []).1.toNat)).toArray⟩, 0) else (⟨#[]⟩, 253)) else (⟨#[]⟩, cko a.length b.length l true 0 0)
section
variable (l : List Ch) (hl : l.length ≤ 1048576) (a b : List ByteArray) (ha : a.length ≤ 1048576) (hb : b.length ≤ 1048576) (has : ∀ s ∈ a, s.size ≤ 1048576) (hbs : ∀ s ∈ b, s.size ≤ 1048576) (nm : ByteArray) (hn : nm.size ≤ 1048576)
include hl ha hb has hbs hn
theorem both (h : cko a.length b.length l true 0 0 = 0) : If.go a b (g0 nm) (g1 nm) (g2 nm) (g3 nm) (g4 nm) l 0 [] = some (fin a b nm l 0 []) ∧ Ev (fun k => Rf.go k a b nm l 0 ⟨#[]⟩) ((fin a b nm l 0 []).1, ⟨(fin a b nm l 0 []).2.toArray⟩) ∧ 0 ≤ (fin a b nm l 0 []).1 ∧ (fin a b nm l 0 []).1 ≤ (a.length : Int) ∧ (fin a b nm l 0 []).2.length + (wh (a.drop (fin a b nm l 0 []).1.toNat)).length ≤ 100000000000000 := by
  have hk : H11.chk a.length b.length l true 0 0 = true := by
    unfold cko at h
    by_cases e : H11.chk a.length b.length l true 0 0 = true
    · exact e
    · rw [if_neg e] at h; omega
  obtain ⟨i1, i2, i3, i4, i5⟩ := go_both a b ha hb has hbs nm hn l.length hl l 0 0 [] (chn_of l true 0 0 hk) (by omega) (by omega) (by omega) (by rw [List.length_nil]; omega)
  have e1 := drop_len a (fin a b nm l 0 []).1
  have e7 := wh_len a has
  have e8 := wh_len b hbs
  exact ⟨i1, i2, i3, i4, by omega⟩
theorem ifd_p : Ev (fun k => views_Ifdef.f k l a b nm) (ifd l a b nm) := by
  unfold views_Ifdef.f ifd
  simp only [if_pos (show a.length ≤ 1000000000000 ∧ b.length ≤ 1000000000000 ∧ l.length ≤ 1000000000000 by omega)]
  refine Ev.bind (H11.check_p (a.length : Int) (b.length : Int) (by omega) (by omega) l (by omega)) ?_
  by_cases h : cko a.length b.length l true 0 0 = 0
  case neg => simp only [if_neg h]; exact Ev.now _
  simp only [if_pos h, name_p nm (show nm.size ≤ 1000000000000000 by omega), bsome]
  by_cases h2 : nameok nm = true
  case neg => simp only [if_neg h2]; exact Ev.now _
  obtain ⟨i1, i2, i3, i4, i5⟩ := both l hl a b ha hb has hbs nm hn h
  have m4 := all_p (a.drop (fin a b nm l 0 []).1.toNat) (fun s h => has s (List.mem_of_mem_drop h))
  simp only [if_pos h2, of_eq nm hn, bsome, i1, m4, if_pos (show 0 ≤ (fin a b nm l 0 []).1 ∧ (fin a b nm l 0 []).1 ≤ (a.length : Int) ∧ (fin a b nm l 0 []).2.length + (wh (a.drop (fin a b nm l 0 []).1.toNat)).length ≤ 100000000000000 from ⟨i3, i4, i5⟩)]
  exact Ev.now _
theorem ifd_r : Ev (fun k => redlineref17_Ifdef.f k l a b nm) (ifd l a b nm) := by
  unfold redlineref17_Ifdef.f ifd
  simp only [if_pos (show a.length ≤ 1000000000000 ∧ b.length ≤ 1000000000000 ∧ l.length ≤ 1000000000000 by omega)]
  refine Ev.bind (H11.check_r (a.length : Int) (b.length : Int) (by omega) (by omega) l (by omega)) ?_
  by_cases h : cko a.length b.length l true 0 0 = 0
  case neg => simp only [if_neg h]; exact Ev.now _
  simp only [if_pos h]
  refine Ev.bind (name_r nm (by omega)) ?_
  by_cases h2 : nameok nm = true
  case neg => simp only [if_neg h2]; exact Ev.now _
  obtain ⟨i1, i2, i3, i4, i5⟩ := both l hl a b ha hb has hbs nm hn h
  simp only [if_pos h2]
  refine Ev.bind i2 ?_
  refine Ev.bind (whole_r (a.drop (fin a b nm l 0 []).1.toNat) (by rw [List.length_drop]; omega) (fun s h => has s (List.mem_of_mem_drop h))) ?_
  have e : (⟨(fin a b nm l 0 []).2.toArray⟩ : ByteArray) ++ ⟨(wh (a.drop (fin a b nm l 0 []).1.toNat)).toArray⟩ = ⟨((fin a b nm l 0 []).2 ++ wh (a.drop (fin a b nm l 0 []).1.toNat)).toArray⟩ := by
    apply bytes_eq
    rw [Go.Joins.data_append, dl, dl, dl]
  simp only [bsz, if_pos (show 0 ≤ (fin a b nm l 0 []).1 ∧ (fin a b nm l 0 []).1 ≤ (a.length : Int) ∧ (fin a b nm l 0 []).2.length + (wh (a.drop (fin a b nm l 0 []).1.toNat)).length ≤ 100000000000000 from ⟨i3, i4, i5⟩), e]
  exact Ev.now _
/-- the law's function is true -/
theorem vi_ev : Ev (fun k => redlinelaw17_ViewsIfdef.f k l a b nm) true := by
  unfold redlinelaw17_ViewsIfdef.f
  refine Ev.bind (ifd_p l hl a b ha hb has hbs nm hn) ?_
  refine Ev.bind (ifd_r l hl a b ha hb has hbs nm hn) ?_
  simp only [if_true, beq_self_eq_true]
  exact Ev.now _
end
end H17
end Go.Proofs.Ytnbeppnpfdempaa.Q
