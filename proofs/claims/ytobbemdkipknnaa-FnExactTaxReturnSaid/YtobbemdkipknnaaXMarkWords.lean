import Derived.Test.YtobbemdkipknnaaXMapWords
set_option linter.unusedVariables false
set_option linter.unusedSimpArgs false
namespace Go.Proofs.Ytobbemdkipknnaa.MarkWords
open Go Go.RowKit Go.Proofs.YtobbemdkipknnaaW.PrintWords Go.Proofs.YtobbemdkipknnaaW.PrintLast Go.Proofs.YtobbemdkipknnaaW.PrintMore Go.Proofs.Ytobbemdkipknnaa.MapWords
def SimV (u v : Value) : Prop := u = v ∨ (∃ a b, u = .int .i64 a ∧ v = .int .i64 b) ∨ (∃ a b, u = .string a ∧ v = .string b) ∨ ∃ a b, u = .bool a ∧ v = .bool b
theorem SimV.refl (u : Value) : SimV u u := Or.inl rfl
theorem SimV.trans {u v x : Value} (h : SimV u v) (k : SimV v x) : SimV u x := by
  rcases h with rfl | ⟨a, b, rfl, rfl⟩ | ⟨a, b, rfl, rfl⟩ | ⟨a, b, rfl, rfl⟩
  · exact k
  · rcases k with rfl | ⟨c, d, h1, rfl⟩ | ⟨c, d, h1, rfl⟩ | ⟨c, d, h1, rfl⟩
    · exact Or.inr (Or.inl ⟨_, _, rfl, rfl⟩)
    · exact Or.inr (Or.inl ⟨_, _, rfl, rfl⟩)
    · cases h1
    · cases h1
  · rcases k with rfl | ⟨c, d, h1, rfl⟩ | ⟨c, d, h1, rfl⟩ | ⟨c, d, h1, rfl⟩
    · exact Or.inr (Or.inr (Or.inl ⟨_, _, rfl, rfl⟩))
    · cases h1
    · exact Or.inr (Or.inr (Or.inl ⟨_, _, rfl, rfl⟩))
    · cases h1
  · rcases k with rfl | ⟨c, d, h1, rfl⟩ | ⟨c, d, h1, rfl⟩ | ⟨c, d, h1, rfl⟩
    · exact Or.inr (Or.inr (Or.inr ⟨_, _, rfl, rfl⟩))
    · cases h1
    · cases h1
    · exact Or.inr (Or.inr (Or.inr ⟨_, _, rfl, rfl⟩))
theorem SimV.int (a b : Int) : SimV (.int .i64 a) (.int .i64 b) := Or.inr (Or.inl ⟨_, _, rfl, rfl⟩)
theorem SimV.str (a b : ByteArray) : SimV (.string a) (.string b) := Or.inr (Or.inr (Or.inl ⟨_, _, rfl, rfl⟩))
theorem SimV.bool (a b : Bool) : SimV (.bool a) (.bool b) := Or.inr (Or.inr (Or.inr ⟨_, _, rfl, rfl⟩))
theorem SimV.slice {A : Option Addr} {n c : Nat} {v : Value} (h : SimV (.slice A n c) v) : v = .slice A n c := by
  rcases h with rfl | ⟨a, b, h1, _⟩ | ⟨a, b, h1, _⟩ | ⟨a, b, h1, _⟩
  · rfl
  · cases h1
  · cases h1
  · cases h1
def Sim (P : Nat → Prop) (w w1 : World) : Prop := w.heap.size ≤ w1.heap.size ∧ (∀ k, k < w.heap.size → ¬ P k → w1.heap[k]? = w.heap[k]?) ∧
  ∀ k, P k → ∀ (cells : Array Value) (q : Nat), w.heap[k]? = some (.cells cells q (0, 0)) → ∃ cells' : Array Value, w1.heap[k]? = some (.cells cells' q (0, 0)) ∧ cells'.size = cells.size ∧ ∀ (j : Nat) (u : Value), cells[j]? = some u → ∃ v, cells'[j]? = some v ∧ SimV u v
section
variable {P : Nat → Prop} {w w1 w2 : World} {g o : Nat} {u x : Value}
theorem Sim.refl (P : Nat → Prop) (w : World) : Sim P w w := ⟨Nat.le_refl _, fun _ _ _ => rfl, fun _ _ cells _ hc => ⟨cells, hc, rfl, fun _ u hu => ⟨u, hu, SimV.refl u⟩⟩⟩
theorem Sim.kept (h : Sim P w w1) : Kept w w1 P := ⟨h.1, h.2.1⟩
theorem Sim.below (h : Sim P w w1) (hb : Below w1.heap.size w1 w2) : Sim P w w2 :=
  ⟨Nat.le_trans h.1 hb.size, fun k hk hn => (hb.block k (Nat.lt_of_lt_of_le hk h.1)).trans (h.2.1 k hk hn), fun k hk cells q hc => by
    obtain ⟨c', h1, h2, h3⟩ := h.2.2 k hk cells q hc
    exact ⟨c', (hb.block k (blk_lt h1)).trans h1, h2, h3⟩⟩
def At (P : Nat → Prop) (w : World) (g o : Nat) (u : Value) : Prop := P g ∧ ∃ (cells : Array Value) (q : Nat), w.heap[g]? = some (.cells cells q (0, 0)) ∧ cells[o]? = some u
theorem At.of {cells : Array Value} {q : Nat} (hP : P g) (hc : w.heap[g]? = some (.cells cells q (0, 0))) (hu : w.cell? ⟨g, o, none⟩ = some u) : At P w g o u := ⟨hP, cells, q, hc, (blk_cell hc o).symm.trans hu⟩
theorem At.cell (a : At P w g o u) (h : Sim P w w1) : ∃ v, w1.cell? ⟨g, o, none⟩ = some v ∧ SimV u v := by
  obtain ⟨hP, cells, q, hc, hu⟩ := a
  obtain ⟨c', h1, h2, h3⟩ := h.2.2 g hP cells q hc
  obtain ⟨v, h4, h5⟩ := h3 o u hu
  exact ⟨v, (blk_cell h1 o).trans h4, h5⟩
theorem At.slice {A : Option Addr} {n c : Nat} (a : At P w g o (.slice A n c)) (h : Sim P w w1) : w1.cell? ⟨g, o, none⟩ = some (.slice A n c) := by
  obtain ⟨v, h1, h2⟩ := a.cell h
  rw [h1, h2.slice]
theorem At.frozen (a : At P w g o u) (h : Sim P w w1) : w1.frozen? ⟨g, o, none⟩ = false := by
  obtain ⟨hP, cells, q, hc, hu⟩ := a
  obtain ⟨c', h1, _, _⟩ := h.2.2 g hP cells q hc
  exact blk_frozen h1 o
theorem At.set (a : At P w g o u) (h : Sim P w w1) (hx : SimV u x) : Sim P w (w1.setCell ⟨g, o, none⟩ x) := by
  obtain ⟨hP, cells, q, hc, hu⟩ := a
  obtain ⟨c', h1, h2, h3⟩ := h.2.2 g hP cells q hc
  refine ⟨by simpa [World.setCell] using h.1, fun k hk hn => ?_, fun k hk cells2 q2 hc2 => ?_⟩
  · refine (Below.heap_setCell w1 ⟨g, o, none⟩ x k (fun e => hn ?_)).trans (h.2.1 k hk hn)
    have e' : k = g := e
    rw [e']; exact hP
  · by_cases e : k = g
    · subst e
      rw [hc] at hc2
      injection hc2 with hc2
      injection hc2 with e1 e2 _
      subst e1; subst e2
      refine ⟨c'.setIfInBounds o x, blk_set h1 o x, by simp [h2], fun j u' hj => ?_⟩
      by_cases ej : j = o
      · subst ej
        have hlt : j < c'.size := by rw [h2]; exact (Array.getElem?_eq_some_iff.1 hj).1
        refine ⟨x, by simp [hlt], ?_⟩
        rw [hu] at hj
        injection hj with hj
        rw [← hj]; exact hx
      · obtain ⟨v, h4, h5⟩ := h3 j u' hj
        exact ⟨v, by rw [Array.getElem?_setIfInBounds_ne (Ne.symm ej)]; exact h4, h5⟩
    · obtain ⟨c2, h4, h5, h6⟩ := h.2.2 k hk cells2 q2 hc2
      exact ⟨c2, (Below.heap_setCell w1 ⟨g, o, none⟩ x k e).trans h4, h5, h6⟩
end
def isInt (u : Value) : Prop := ∃ a, u = .int .i64 a
def isStr (u : Value) : Prop := ∃ a, u = .string a
def Flat (P : Nat → Prop) (w : World) (good : Value → Prop) (A : Option Addr) (m : Nat) : Prop := m = 0 ∨ ∃ g, A = some ⟨g, 0, none⟩ ∧ ∀ o, o < m → ∃ u, At P w g o u ∧ good u
theorem Flat.pos {P : Nat → Prop} {w : World} {good : Value → Prop} {A : Option Addr} {m : Nat} (h : Flat P w good A m) (hm : 0 < m) : ∃ g, A = some ⟨g, 0, none⟩ ∧ ∀ o, o < m → ∃ u, At P w g o u ∧ good u := by
  rcases h with h | h
  · omega
  · exact h
def gk (ss : List Bool) (j : Nat) (u : Value) : Prop := if ss.getD j false = true then isStr u else isInt u
def FlatJ (P : Nat → Prop) (w : World) (sz : Nat) (good : Nat → Value → Prop) (A : Option Addr) (m : Nat) : Prop := m = 0 ∨ ∃ g, A = some ⟨g, 0, none⟩ ∧ ∀ o, o < m → ∃ u, At P w g o u ∧ good (o % sz) u
theorem FlatJ.pos {P : Nat → Prop} {w : World} {sz : Nat} {good : Nat → Value → Prop} {A : Option Addr} {m : Nat} (h : FlatJ P w sz good A m) (hm : 0 < m) : ∃ g, A = some ⟨g, 0, none⟩ ∧ ∀ o, o < m → ∃ u, At P w g o u ∧ good (o % sz) u := by
  rcases h with h | h
  · omega
  · exact h
theorem flat_of_RJ {α : Type} {d : Kd α} {e : Nat} {w : World} {base : Nat} {ok P : Nat → Prop} {A : Option Addr} {n c : Nat} {xs : List α} (good : Nat → Value → Prop) (z : α) (h : d.R e w base ok (.slice A n c) xs) (hP : ∀ k, ok k → P k) (hs : 0 < d.sz)
    (hg : ∀ (ok' : Nat → Prop) (x : α) (cs : List Value), d.M w base ok' x cs → ∀ j (hj : j < cs.length), good j cs[j]) : FlatJ P w d.sz good A (n * d.sz) := by
  by_cases hn : n = 0
  · left; rw [hn, Nat.zero_mul]
  · right
    have hl := (Kd.R_reads' h).1
    obtain ⟨g, cap, he, _, _, cells, hc⟩ := Kd.R_form h (by omega)
    injection he with hA _ _
    subst hA
    refine ⟨g, rfl, fun o ho => ?_⟩
    have hd : o / d.sz < n := Nat.div_lt_of_lt_mul (by rw [Nat.mul_comm]; exact ho)
    obtain ⟨cs, hcl, hM, hcc, _⟩ := Kd.R_elem h z ((o / d.sz : Nat) : Int) (Int.natCast_nonneg _) (Int.ofNat_lt.2 hd)
    have hr : o % d.sz < cs.length := by rw [hcl]; exact Nat.mod_lt _ hs
    have h1 := hcc (o % d.sz) _ (List.getElem?_eq_getElem hr)
    rw [Int.toNat_natCast, Nat.mul_comm, Nat.div_add_mod] at h1
    exact ⟨_, At.of (hP g (h.1 g (by simp [Value.ownBlock]))) hc h1, hg _ _ _ hM _ hr⟩
namespace Kd
section
variable {α : Type} {d : Kd α} {e : Nat} {w w1 : World} {base : Nat} {ok : Nat → Prop} {v : Value} {xs : List α} {S : Nat → Prop} {L : List Nat}
theorem R_markK (h : d.R e w base ok v xs) (hk : Kept w w1 S) (hS : ∀ k, S k → ∃ q, q ∈ L ∧ ∃ cells, w.heap[k]? = some (.cells cells q (0, 0))) (hL : ∀ q, q ∈ e :: d.E → ∀ p, p ∈ L → q ≠ p) : d.R e w1 base ok v xs :=
  Kd.R_mono (Kd.R_move (Kd.R_bound h) (fun k hk2 => hk.2 k hk2.2.2.1 (fun hs => by
    obtain ⟨_, _, _, q, hq, cells, hc⟩ := hk2
    obtain ⟨p, hp, cells', hc'⟩ := hS k hs
    rw [hc] at hc'
    injection hc' with hc'
    injection hc' with _ e2 _
    exact hL q hq p hp e2))) (fun _ hk2 => hk2.1)
end
end Kd
section
variable {P : Program} {ops : Array Oper} {Q : Exit → Act → World → Prop} {o : Oper} {rest : List Oper} {a : Act} {W : World}
theorem goesV_ {oi : Oper} {N : Option Tmp} {a : Act} {w : World} {K : Act → World → Prop} {f : FuncId} {fn : Func} {x : Tmp} {as : Array Operand} {ts : Array TypeId} (hf : P.funcs[f]? = some fn) (hname : (fn.name == "runtime.NumGoroutine") = false) (hb : fn.body.isSome = true) (args : Array Value)
    (hw : Region.wanted oi (yielded ops a.tmps) = true) (hN : oi.dst = N) (hop : oi.op = .call { callee := .value (.tmp x), args := as, argTypes := ts }) (hfn : a.eval (.tmp x) = .func (.func f) #[] #[]) (hargs : as.map a.eval = args)
    (h : Calls P f args w fun e w' => ∃ v, e = .returned v ∧ K (a.put N v) w') : if Region.wanted oi (yielded ops a.tmps) = true then Oper.wp P oi a w K Q else K (a.put N undef) w := by
  refine call_ f args hw hN ?_ h
  have he := enters_ hf hname hb args w
  unfold execOp
  simp [hop, resolve, Deferred.ofValue, invoke, hfn, hargs, he]
end
end Go.Proofs.Ytobbemdkipknnaa.MarkWords
namespace Go.Proofs.YtobbemdkipknnaaW.PrintWords.Kd
open Go Go.RowKit
end Go.Proofs.YtobbemdkipknnaaW.PrintWords.Kd

