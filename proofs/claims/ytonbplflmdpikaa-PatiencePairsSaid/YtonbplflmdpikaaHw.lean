/- Words for the proofs by hand: rows of the call's own by their block, cuts of them. -/
import Derived.Test.YtonbplflmdpikaaWMore
import Derived.RegionTactic
namespace Go.Proofs.YtonbplflmdpikaaW.HandWords
open Go.RowKit Go.Proofs.YtonbplflmdpikaaW.PrintWords Go.Proofs.YtonbplflmdpikaaW.PrintLast Go.Proofs.YtonbplflmdpikaaW.PrintMore
set_option linter.unusedVariables false
set_option linter.unusedSimpArgs false
theorem R_form {α : Type} {d : Kd α} {e base : Nat} {ok : Nat → Prop} {w : World} {v : Value} {xs : List α} (h : d.R e w base ok v xs) (hn : 0 < xs.length) : ∃ g c, v = .slice (some ⟨g, 0, none⟩) xs.length c ∧ xs.length ≤ c := by
  obtain ⟨inner, ho⟩ := Kd.R_own h
  obtain ⟨g, cap, rfl, _⟩ := ho.form hn
  exact ⟨g, cap, rfl, own_le ho⟩

theorem run_cut {P : Program} (t e : TypeId) {i : TypeInfo} (ht : P.underlying t = some (.slice e)) (hi : P.info? e = some i) (hsz : i.size = 1) (g off n c : Nat) (a b : Int) (h0 : 0 ≤ a) (h1 : a ≤ b) (hb : b ≤ c) (hc : a < c) (W : World) :
    (Instr.slice t (.slice (some ⟨g, off, none⟩) n c) (some (.int .i64 a)) (some (.int .i64 b)) none).run P W = .ok (.slice (some ⟨g, off + a.toNat, none⟩) (b.toNat - a.toNat) (c - a.toNat)) W := by
  have hel : P.elem t = e := by simp [Program.elem, ht]
  have hu : P.underlying t = some (.slice (P.elem t)) := by rw [hel]; exact ht
  rw [run_slice_lh W t _ n c hu .i64 .i64 a b h0 h1 (by omega), hel]
  have : c ≠ a.toNat := by omega
  simp [sizeOf, typeInfo, hi, hsz, sliced, Result.andThen, this, Addr.add]
theorem run_cut_l {P : Program} (t e : TypeId) {i : TypeInfo} (ht : P.underlying t = some (.slice e)) (hi : P.info? e = some i) (hsz : i.size = 1) (g off n c : Nat) (a : Int) (h0 : 0 ≤ a) (hb : a ≤ n) (hc : a < c) (W : World) :
    (Instr.slice t (.slice (some ⟨g, off, none⟩) n c) (some (.int .i64 a)) none none).run P W = .ok (.slice (some ⟨g, off + a.toNat, none⟩) (n - a.toNat) (c - a.toNat)) W := by
  have hel : P.elem t = e := by simp [Program.elem, ht]
  have hu : P.underlying t = some (.slice (P.elem t)) := by rw [hel]; exact ht
  rw [run_slice_l W t _ n c hu .i64 a h0 hb, hel]
  have : c ≠ a.toNat := by omega
  simp [sizeOf, typeInfo, hi, hsz, sliced, Result.andThen, this, Addr.add]
theorem R_cell_nat {k : IntKind} {e base n cap g : Nat} {ok : Nat → Prop} {W : World} {xs : List Int} (h : (Kd.int k).R e W base ok (.slice (some ⟨g, 0, none⟩) n cap) xs) (i : Nat) (hi : i < xs.length) :
    W.cell? ⟨g, i, none⟩ = some (.int k (xs.getD i 0)) ∧ W.frozen? ⟨g, i, none⟩ = false := by
  have hn : n = xs.length := by obtain ⟨A, c, he, _⟩ := Kd.R_reads h; injection he
  subst hn
  have := Kd.R_cell (0 : Int) h (i : Int) (by omega) (by omega)
  simpa [rdOf] using this
theorem R_base {α : Type} {d : Kd α} {e base n cap g : Nat} {ok : Nat → Prop} {W : World} {xs : List α} (h : d.R e W base ok (.slice (some ⟨g, 0, none⟩) n cap) xs) : base ≤ g := by
  obtain ⟨inner, ho⟩ := Kd.R_own h
  exact own_base ho g rfl
theorem R_store_nat {k : IntKind} {e base n cap g : Nat} {ok : Nat → Prop} {W : World} {xs : List Int} (h : (Kd.int k).R e W base ok (.slice (some ⟨g, 0, none⟩) n cap) xs) (i : Nat) (x : Int) :
    (Kd.int k).R e (W.setCell ⟨g, i, none⟩ (.int k x)) base ok (.slice (some ⟨g, 0, none⟩) n cap) (xs.set i x) := by
  have hn : n = xs.length := by obtain ⟨A, c, he, _⟩ := Kd.R_reads h; injection he
  subst hn
  obtain ⟨ho, hg⟩ := own_store_of (Kd.own_of_R h) (i : Int) x
  exact Kd.R_of_own (by rw [List.length_set]; exact ho) h.1
/-- goes_ for a function kept in a variable (a function literal that captures nothing) -/
theorem goesv_ {P : Program} {ops : Array Oper} {Q : Exit → Act → World → Prop} {oi : Oper} {N : Option Tmp} {a : Act} {w : World} {K : Act → World → Prop} {f : FuncId} {fn : Func} {cv : Operand} {as : Array Operand} {ts : Array TypeId} (hf : P.funcs[f]? = some fn) (hname : (fn.name == "runtime.NumGoroutine") = false) (hb : fn.body.isSome = true) (args : Array Value)
    (hw : Region.wanted oi (yielded ops a.tmps) = true) (hN : oi.dst = N) (hop : oi.op = .call { callee := .value cv, args := as, argTypes := ts } ∧ a.eval cv = a.eval (.func f)) (hargs : as.map a.eval = args)
    (h : Calls P f args w fun e w' => ∃ v, e = .returned v ∧ K (a.put N v) w') : if Region.wanted oi (yielded ops a.tmps) = true then Oper.wp P oi a w K Q else K (a.put N undef) w := by
  refine call_ f args hw hN ?_ h
  have he := enters_ hf hname hb args w
  have e1 : execOp a.eval oi = execOp a.eval { oi with op := .call { callee := .value (.func f), args := as, argTypes := ts } } := by
    unfold execOp
    rw [hop.1]
    simp only [resolve, hop.2]
  rw [e1]
  unfold execOp
  simp [resolve, Deferred.ofValue, invoke, Act.eval, hargs, he]
end Go.Proofs.YtonbplflmdpikaaW.HandWords
