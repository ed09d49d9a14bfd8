import Derived.Test.YtadehdkmggpehaaUSelFnMutualWhole
set_option linter.unusedVariables false
set_option linter.unusedSimpArgs false
namespace Go.Proofs.Ytadehdkmggpehaa.PFnMutualWhole
open Go Go.RowKit Go.Proofs.YtadehdkmggpehaaW.PrintWords Go.Proofs.YtadehdkmggpehaaW.PrintLast Go.Proofs.Ytadehdkmggpehaa.MapWords Go.Proofs.Ytadehdkmggpehaa.IterWords Go.Proofs.Ytadehdkmggpehaa.EvWords
open Classical
def amt (a : Int) : Prop := -100000000000 ≤ a ∧ a ≤ 100000000000
def fac (a : Int) : Prop := 0 ≤ a ∧ a ≤ 10000000
theorem between_eq (a b c : Int) : impl_between.f a b c = some (decide (b ≤ a ∧ a ≤ c)) := by
  unfold impl_between.f
  by_cases h : a ≥ b
  · rw [if_pos h]; congr 1; simp; omega
  · rw [if_neg h]; congr 1; simp; omega
theorem l1In_eq (a b c : Int) : spec_l1In.f a b c = some (decide (b ≤ a ∧ a ≤ c)) := by
  unfold spec_l1In.f
  by_cases h : a ≥ b
  · rw [if_pos h]; congr 1; simp; omega
  · rw [if_neg h]; congr 1; simp; omega
theorem amt_i (a : Int) : impl_amount.f a = some (decide (amt a)) := by unfold impl_amount.f; rw [between_eq]; exact congrArg some (decide_eq_decide.2 Iff.rfl)
theorem amt_s (a : Int) : spec_l1Amount.f a = some (decide (amt a)) := by unfold spec_l1Amount.f; rw [l1In_eq]; exact congrArg some (decide_eq_decide.2 Iff.rfl)
theorem fac_i (a : Int) : impl_factor.f a = some (decide (fac a)) := by unfold impl_factor.f; rw [between_eq]; exact congrArg some (decide_eq_decide.2 Iff.rfl)
theorem fac_s (a : Int) : spec_l1Factor.f a = some (decide (fac a)) := by unfold spec_l1Factor.f; rw [l1In_eq]; exact congrArg some (decide_eq_decide.2 Iff.rfl)
theorem sumOf_ev (l : List Int) (M : Int) (h0 : 0 ≤ M) (hM : M ≤ 9000000000000000) (hl : l.length ≤ 1000) (hb : ∀ j, j < l.length → -M ≤ ri l j ∧ ri l j ≤ M) : Ev (fun k => impl_sumOf.f k l) (sm (ri l) l.length) := by
  unfold impl_sumOf.f
  have main : ∀ (d i : Nat), i + d = l.length → Ev (fun k => impl_sumOf.l0 k (sm (ri l) i) l (l.length : Int) (i : Int)) (sm (ri l) l.length) := by
    intro d
    induction d with
    | zero =>
      intro i hi
      have e : i = l.length := by omega
      subst e
      refine Ev.step (fun _ => rfl) ?_
      simp only [impl_sumOf.l0]
      exact ev_neg (by omega) (ev_some _)
    | succ d ih =>
      intro i hi
      have b1 := sm_bd (f := ri l) h0 i (fun j hj => hb j (by omega))
      have b2 := hb i (by omega)
      have hM2 : (i : Int) * M ≤ 1000 * 9000000000000000 := Int.le_trans (Int.mul_le_mul_of_nonneg_right (by omega) h0) (Int.mul_le_mul_of_nonneg_left hM (by omega))
      refine Ev.step (fun _ => rfl) ?_
      simp only [impl_sumOf.l0, ri_rd]
      rw [wrap_id (x := sm (ri l) i + ri l i) (by omega) (by omega), wrap_id (x := (i : Int) + 1) (by omega) (by omega)]
      have := ih (i + 1) (by omega)
      exact ev_pos (by omega) (ev_pos (by omega) (ev_pos (by omega) this))
  exact main l.length 0 (by omega)
section
variable (T : Int) (ws : List Int)
def qf (S : Int) (i : Nat) : Int := Int.tdiv (T * ri ws i) S
def mf (S : Int) (i : Nat) : Int := Int.tmod (T * ri ws i) S
def af (S : Int) (i : Nat) : Int := if mf T ws S i < 0 then -(mf T ws S i) else mf T ws S i
end
def tab (f : Nat → Int) (n : Nat) : List Int := (List.range n).map f
theorem tab_len (f : Nat → Int) (n : Nat) : (tab f n).length = n := by simp [tab]
theorem tab_at (f : Nat → Int) (n i : Nat) (h : i < n) : ri (tab f n) i = f i := by
  unfold ri tab
  rw [List.getD_eq_getElem?_getD, List.getElem?_map, List.getElem?_range h]
  rfl
theorem tab_succ (f : Nat → Int) (n : Nat) : tab f (n + 1) = tab f n ++ [f n] := by
  unfold tab
  rw [List.range_succ, List.map_append]
  rfl
def ctab (f : Nat → Int) (n : Nat) : List Cut := (List.range n).map (fun (i : Nat) => (⟨(i : Int), f i⟩ : Cut))
theorem ctab_len (f : Nat → Int) (n : Nat) : (ctab f n).length = n := by simp [ctab]
structure Shr (T : Int) (ws : List Int) (S : Int) : Prop where
  hT : amt T
  hn : 1 ≤ ws.length ∧ ws.length ≤ 200
  hw : ∀ i, i < ws.length → fac (ri ws i)
  hS : S = sm (ri ws) ws.length
  hp : 1 ≤ S
section
variable {T : Int} {ws : List Int} {S : Int}
theorem Shr.ub (h : Shr T ws S) : S ≤ 2000000000 := by
  have := sm_bd (f := ri ws) (M := 10000000) (by omega) ws.length (fun j hj => by have := h.hw j hj; unfold fac at this; omega)
  have h1 := h.hn.2
  have h2 := h.hS
  omega
theorem sw_mono (h : Shr T ws S) : ∀ n i, i ≤ n → n ≤ ws.length → 0 ≤ sm (ri ws) i ∧ sm (ri ws) i ≤ sm (ri ws) n
  | 0, i, hi, _ => by
    have : i = 0 := by omega
    subst this
    simp [sm]
  | n + 1, i, hi, hn => by
    have hw := (h.hw n (by omega)).1
    by_cases e : i = n + 1
    · subst e
      have := sw_mono h n n (Nat.le_refl _) (by omega)
      simp only [sm]
      omega
    · have := sw_mono h n i (by omega) (by omega)
      simp only [sm]
      omega
theorem prod_bd (h : Shr T ws S) (i : Nat) (hi : i < ws.length) : -1000000000000000000 ≤ T * ri ws i ∧ T * ri ws i ≤ 1000000000000000000 := by
  obtain ⟨a1, a2⟩ := h.hT
  obtain ⟨b1, b2⟩ := h.hw i hi
  have c1 : T * ri ws i ≤ 100000000000 * ri ws i := Int.mul_le_mul_of_nonneg_right a2 b1
  have c2 : -100000000000 * ri ws i ≤ T * ri ws i := Int.mul_le_mul_of_nonneg_right a1 b1
  omega
theorem split_at (h : Shr T ws S) (i : Nat) : S * qf T ws S i + mf T ws S i = T * ri ws i := Int.mul_tdiv_add_tmod _ _
theorem split_sm (h : Shr T ws S) : ∀ i, S * sm (qf T ws S) i + sm (mf T ws S) i = T * sm (ri ws) i
  | 0 => by simp [sm]
  | i + 1 => by
    have h1 := split_sm h i
    have h2 := split_at h i
    simp only [sm]
    rw [Int.mul_add, Int.mul_add]
    omega
theorem sgn (h : Shr T ws S) (i : Nat) (hi : i < ws.length) : (0 ≤ T → 0 ≤ qf T ws S i ∧ 0 ≤ mf T ws S i) ∧ (T ≤ 0 → qf T ws S i ≤ 0 ∧ mf T ws S i ≤ 0) ∧ -S < mf T ws S i ∧ mf T ws S i < S := by
  have hw := (h.hw i hi).1
  have hS := h.hp
  refine ⟨fun ht => ?_, fun ht => ?_, ?_, ?_⟩
  · have hp : 0 ≤ T * ri ws i := Int.mul_nonneg ht hw
    exact ⟨Int.tdiv_nonneg hp (by omega), Int.tmod_nonneg _ hp⟩
  · have hp : 0 ≤ (-T) * ri ws i := Int.mul_nonneg (by omega) hw
    have e : T * ri ws i = -((-T) * ri ws i) := by rw [Int.neg_mul, Int.neg_neg]
    unfold qf mf
    rw [e, Int.neg_tdiv, Int.neg_tmod]
    have h1 := Int.tdiv_nonneg (b := S) hp (by omega)
    have h2 := Int.tmod_nonneg S hp
    exact ⟨by omega, by omega⟩
  · have h1 := Int.lt_tmod_of_pos (T * ri ws i) (show 0 < S by omega)
    exact h1
  · exact Int.tmod_lt_of_pos _ (by omega)
theorem sum_sgn (h : Shr T ws S) : ∀ i, i ≤ ws.length → (0 ≤ T → 0 ≤ sm (qf T ws S) i ∧ 0 ≤ sm (mf T ws S) i ∧ sm (mf T ws S) i ≤ (i : Int) * S) ∧ (T ≤ 0 → sm (qf T ws S) i ≤ 0 ∧ sm (mf T ws S) i ≤ 0 ∧ -((i : Int) * S) ≤ sm (mf T ws S) i)
  | 0, _ => by simp [sm]
  | i + 1, hi => by
    obtain ⟨a, b⟩ := sum_sgn h i (by omega)
    obtain ⟨c, d, e, f⟩ := sgn h i (by omega)
    have e2 : ((i + 1 : Nat) : Int) * S = (i : Int) * S + S := by rw [Int.natCast_add, Int.add_mul]; simp
    simp only [sm]
    rw [e2]
    refine ⟨fun ht => ?_, fun ht => ?_⟩
    · have := a ht; have := c ht; omega
    · have := b ht; have := d ht; omega
theorem q_bd (h : Shr T ws S) (i : Nat) (hi : i ≤ ws.length) : -100000000000 ≤ sm (qf T ws S) i ∧ sm (qf T ws S) i ≤ 100000000000 := by
  have h1 := split_sm h i
  obtain ⟨a, b⟩ := sum_sgn h i hi
  obtain ⟨a1, a2⟩ := h.hT
  have hS := h.hp
  have hw := sw_mono h ws.length i hi (Nat.le_refl _)
  rw [← h.hS] at hw
  by_cases ht : 0 ≤ T
  · obtain ⟨c1, c2, _⟩ := a ht
    have h2 : T * sm (ri ws) i ≤ T * S := Int.mul_le_mul_of_nonneg_left hw.2 ht
    have h3 : S * sm (qf T ws S) i ≤ S * T := by rw [Int.mul_comm S T]; omega
    have := Int.le_of_mul_le_mul_left h3 (by omega)
    omega
  · obtain ⟨c1, c2, _⟩ := b (by omega)
    have h2 : (-T) * sm (ri ws) i ≤ (-T) * S := Int.mul_le_mul_of_nonneg_left hw.2 (by omega)
    rw [Int.neg_mul, Int.neg_mul] at h2
    have h3 : S * T ≤ S * sm (qf T ws S) i := by rw [Int.mul_comm S T]; omega
    have := Int.le_of_mul_le_mul_left h3 (by omega)
    omega
theorem q_bd1 (h : Shr T ws S) (i : Nat) (hi : i < ws.length) : -200000000000 ≤ qf T ws S i ∧ qf T ws S i ≤ 200000000000 := by
  have h1 := q_bd h i (by omega)
  have h2 := q_bd h (i + 1) (by omega)
  simp only [sm] at h2
  omega
theorem left_bd (h : Shr T ws S) : -(ws.length : Int) ≤ T - sm (qf T ws S) ws.length ∧ T - sm (qf T ws S) ws.length ≤ (ws.length : Int) := by
  have h1 := split_sm h ws.length
  obtain ⟨a, b⟩ := sum_sgn h ws.length (Nat.le_refl _)
  have hS := h.hp
  rw [← h.hS] at h1
  have e : S * (T - sm (qf T ws S) ws.length) = sm (mf T ws S) ws.length := by rw [Int.mul_sub, Int.mul_comm S T]; omega
  by_cases ht : 0 ≤ T
  · obtain ⟨_, c2, c3⟩ := a ht
    have g1 : S * (T - sm (qf T ws S) ws.length) ≤ S * (ws.length : Int) := by rw [Int.mul_comm S (ws.length : Int)]; omega
    have g2 : S * 0 ≤ S * (T - sm (qf T ws S) ws.length) := by rw [e]; omega
    have := Int.le_of_mul_le_mul_left g1 (by omega)
    have := Int.le_of_mul_le_mul_left g2 (by omega)
    omega
  · obtain ⟨_, c2, c3⟩ := b (by omega)
    have g1 : S * (T - sm (qf T ws S) ws.length) ≤ S * 0 := by rw [e]; omega
    have g2 : S * -(ws.length : Int) ≤ S * (T - sm (qf T ws S) ws.length) := by rw [e, Int.mul_neg, Int.mul_comm S (ws.length : Int)]; omega
    have := Int.le_of_mul_le_mul_left g1 (by omega)
    have := Int.le_of_mul_le_mul_left g2 (by omega)
    omega
theorem af_bd (h : Shr T ws S) (i : Nat) (hi : i < ws.length) : 0 ≤ af T ws S i ∧ af T ws S i < S := by
  obtain ⟨_, _, e, f⟩ := sgn h i hi
  unfold af
  split <;> omega
end
end Go.Proofs.Ytadehdkmggpehaa.PFnMutualWhole
