import Derived.Test.YtadehdkmggpehaaUDetFnMutualWhole
set_option linter.unusedVariables false
set_option linter.unusedSimpArgs false
namespace Go.Proofs.Ytadehdkmggpehaa.PFnMutualWhole
open Go Go.RowKit Go.Proofs.YtadehdkmggpehaaW.PrintWords Go.Proofs.YtadehdkmggpehaaW.PrintLast Go.Proofs.Ytadehdkmggpehaa.MapWords Go.Proofs.Ytadehdkmggpehaa.IterWords Go.Proofs.Ytadehdkmggpehaa.EvWords
open Classical
theorem dN_congr {n : Nat} {m m' : Nat → Nat → Int} (hn : 1 ≤ n ∧ n ≤ 3) (h : ∀ a b, a < n → b < n → m a b = m' a b) : dN n m = dN n m' := by
  obtain rfl | rfl | rfl : n = 1 ∨ n = 2 ∨ n = 3 := by omega
  · exact h 0 0 (by omega) (by omega)
  · show d2 _ _ _ _ = d2 _ _ _ _
    rw [h 0 0 (by omega) (by omega), h 0 1 (by omega) (by omega), h 1 0 (by omega) (by omega), h 1 1 (by omega) (by omega)]
  · show d3 _ _ _ _ _ _ _ _ _ = d3 _ _ _ _ _ _ _ _ _
    rw [h 0 0 (by omega) (by omega), h 0 1 (by omega) (by omega), h 0 2 (by omega) (by omega), h 1 0 (by omega) (by omega), h 1 1 (by omega) (by omega), h 1 2 (by omega) (by omega), h 2 0 (by omega) (by omega), h 2 1 (by omega) (by omega), h 2 2 (by omega) (by omega)]
theorem mul_up {x y a b : Int} (h1 : 0 ≤ x) (h2 : x ≤ a) (h3 : 0 ≤ y) (h4 : y ≤ b) : 0 ≤ x * y ∧ x * y ≤ a * b := by
  refine ⟨Int.mul_nonneg h1 h3, Int.mul_le_mul h2 h4 h3 (by omega)⟩
theorem sm_add (f : Nat → Int) (s : Nat) : ∀ d, sm f (s + d) = sm f s + sm (fun j => f (s + j)) d
  | 0 => by simp [sm]
  | d + 1 => by
    rw [← Nat.add_assoc]
    simp only [sm]
    rw [sm_add f s d]
    omega
theorem sm_lin (a b c : Int) (f g h : Nat → Int) : ∀ n, sm (fun j => f j * a + g j * b + h j * c) n = sm f n * a + sm g n * b + sm h n * c
  | 0 => by simp [sm]
  | n + 1 => by
    simp only [sm]
    rw [sm_lin a b c f g h n, Int.add_mul, Int.add_mul, Int.add_mul]
    omega
section
variable (H : List (List Int)) (s : Nat)
def sh (a b : Nat) : Int := ri (rd_L2 H (a : Int)) b
def me (a b : Nat) : Int := if a = b then 100 else -(sh H a b)
def put (i p : Nat) : Int := dN s (fun a b => if b = i then sh H a p else me H a b)
def rowP (n i : Nat) : Prop := (rd_L2 H (i : Int)).length = n ∧ sh H i i = 0 ∧ (∀ j, j < n → 0 ≤ sh H i j ∧ sh H i j ≤ 100) ∧ sm (sh H i) n = 100
def shP (n : Nat) : Prop := (1 ≤ s ∧ s ≤ 3) ∧ s < n ∧ H.length = s ∧ ∀ i, i < s → rowP H n i
end
section
variable {H : List (List Int)} {s n : Nat}
theorem sh_in (h : shP H s n) (a b : Nat) (ha : a < s) : 0 ≤ sh H a b ∧ sh H a b ≤ 100 := by
  obtain ⟨h1, _, h3, _⟩ := h.2.2.2 a ha
  by_cases hb : b < n
  · exact h3 b hb
  · have : sh H a b = 0 := by
      unfold sh ri
      rw [List.getD_eq_getElem?_getD, List.getElem?_eq_none (by omega)]
      rfl
    omega
theorem me_bd (h : shP H s n) (a b : Nat) (ha : a < s) : -100 ≤ me H a b ∧ me H a b ≤ 100 := by
  have := sh_in h a b ha
  unfold me
  split <;> omega
theorem row_rest (h : shP H s n) (a : Nat) (ha : a < s) : sm (fun j => sh H a (s + j)) (n - s) = 100 - sm (sh H a) s := by
  obtain ⟨_, _, _, h4⟩ := h.2.2.2 a ha
  have h5 := sm_add (sh H a) s (n - s)
  rw [show s + (n - s) = n by have := h.2.1; omega, h4] at h5
  omega
theorem put_forms (h : shP H s n) (i : Nat) (hi : i < s) : ∃ a b c : Int, (0 ≤ a ∧ a ≤ 20000) ∧ (0 ≤ b ∧ b ≤ 20000) ∧ (0 ≤ c ∧ c ≤ 20000) ∧ (∀ p, put H s i p = sh H 0 p * a + sh H 1 p * b + sh H 2 p * c) ∧ (s < 2 → b = 0) ∧ (s < 3 → c = 0) ∧
    (100 - sm (sh H 0) s) * a + (if s < 2 then 0 else (100 - sm (sh H 1) s) * b) + (if s < 3 then 0 else (100 - sm (sh H 2) s) * c) = dN s (me H) := by
  have z : ∀ a, a < s → sh H a a = 0 := fun a ha => (h.2.2.2 a ha).2.1
  have hs := h.1
  obtain rfl | rfl | rfl : s = 1 ∨ s = 2 ∨ s = 3 := by omega
  · obtain rfl : i = 0 := by omega
    have z0 := z 0 (by omega)
    refine ⟨1, 0, 0, by omega, by omega, by omega, fun p => ?_, fun _ => rfl, fun _ => rfl, ?_⟩
    · show sh H 0 p = _
      omega
    · show (100 - (0 + sh H 0 0)) * 1 + (0 : Int) + 0 = 100
      omega
  · have z0 := z 0 (by omega)
    have z1 := z 1 (by omega)
    have x := sh_in h 0 1 (by omega)
    have y := sh_in h 1 0 (by omega)
    obtain rfl | rfl : i = 0 ∨ i = 1 := by omega
    · refine ⟨100, sh H 0 1, 0, by omega, by omega, by omega, fun p => ?_, fun h => by omega, fun _ => rfl, ?_⟩
      · show d2 (sh H 0 p) (-(sh H 0 1)) (sh H 1 p) 100 = _
        unfold d2
        grind
      · show (100 - (0 + sh H 0 0 + sh H 0 1)) * 100 + (100 - (0 + sh H 1 0 + sh H 1 1)) * sh H 0 1 + 0 = d2 100 (-(sh H 0 1)) (-(sh H 1 0)) 100
        rw [z0, z1]
        unfold d2
        grind
    · refine ⟨sh H 1 0, 100, 0, by omega, by omega, by omega, fun p => ?_, fun h => by omega, fun _ => rfl, ?_⟩
      · show d2 100 (sh H 0 p) (-(sh H 1 0)) (sh H 1 p) = _
        unfold d2
        grind
      · show (100 - (0 + sh H 0 0 + sh H 0 1)) * sh H 1 0 + (100 - (0 + sh H 1 0 + sh H 1 1)) * 100 + 0 = d2 100 (-(sh H 0 1)) (-(sh H 1 0)) 100
        rw [z0, z1]
        unfold d2
        grind
  · have z0 := z 0 (by omega)
    have z1 := z 1 (by omega)
    have z2 := z 2 (by omega)
    have hx := sh_in h 0 1 (by omega)
    have hy := sh_in h 0 2 (by omega)
    have hz := sh_in h 1 0 (by omega)
    have hu := sh_in h 1 2 (by omega)
    have hv := sh_in h 2 0 (by omega)
    have ht := sh_in h 2 1 (by omega)
    have e : dN 3 (me H) = d3 100 (-(sh H 0 1)) (-(sh H 0 2)) (-(sh H 1 0)) 100 (-(sh H 1 2)) (-(sh H 2 0)) (-(sh H 2 1)) 100 := rfl
    rw [e]
    have e0 : sm (sh H 0) 3 = 0 + sh H 0 0 + sh H 0 1 + sh H 0 2 := rfl
    have e1 : sm (sh H 1) 3 = 0 + sh H 1 0 + sh H 1 1 + sh H 1 2 := rfl
    have e2 : sm (sh H 2) 3 = 0 + sh H 2 0 + sh H 2 1 + sh H 2 2 := rfl
    rw [e0, e1, e2, z0, z1, z2]
    obtain rfl | rfl | rfl : i = 0 ∨ i = 1 ∨ i = 2 := by omega
    · have q1 := mul_up hu.1 hu.2 ht.1 ht.2
      have q2 := mul_up hy.1 hy.2 ht.1 ht.2
      have q3 := mul_up hx.1 hx.2 hu.1 hu.2
      have e3 : ∀ p, put H 3 0 p = d3 (sh H 0 p) (-(sh H 0 1)) (-(sh H 0 2)) (sh H 1 p) 100 (-(sh H 1 2)) (sh H 2 p) (-(sh H 2 1)) 100 := fun _ => rfl
      generalize sh H 0 1 = x at *
      generalize sh H 0 2 = y at *
      generalize sh H 1 0 = z at *
      generalize sh H 1 2 = u at *
      generalize sh H 2 0 = v at *
      generalize sh H 2 1 = t at *
      refine ⟨10000 - u * t, 100 * x + y * t, x * u + 100 * y, by omega, by omega, by omega, fun p => ?_, fun h => by omega, fun h => by omega, ?_⟩
      · rw [e3]
        unfold d3 d2
        grind
      · rw [if_neg (by omega), if_neg (by omega)]
        unfold d3 d2
        grind
    · have q1 := mul_up hy.1 hy.2 hv.1 hv.2
      have q2 := mul_up hu.1 hu.2 hv.1 hv.2
      have q3 := mul_up hy.1 hy.2 hz.1 hz.2
      have e3 : ∀ p, put H 3 1 p = d3 100 (sh H 0 p) (-(sh H 0 2)) (-(sh H 1 0)) (sh H 1 p) (-(sh H 1 2)) (-(sh H 2 0)) (sh H 2 p) 100 := fun _ => rfl
      generalize sh H 0 1 = x at *
      generalize sh H 0 2 = y at *
      generalize sh H 1 0 = z at *
      generalize sh H 1 2 = u at *
      generalize sh H 2 0 = v at *
      generalize sh H 2 1 = t at *
      refine ⟨100 * z + u * v, 10000 - y * v, 100 * u + y * z, by omega, by omega, by omega, fun p => ?_, fun h => by omega, fun h => by omega, ?_⟩
      · rw [e3]
        unfold d3 d2
        grind
      · rw [if_neg (by omega), if_neg (by omega)]
        unfold d3 d2
        grind
    · have q1 := mul_up hx.1 hx.2 hz.1 hz.2
      have q2 := mul_up hx.1 hx.2 hv.1 hv.2
      have q3 := mul_up hz.1 hz.2 ht.1 ht.2
      have e3 : ∀ p, put H 3 2 p = d3 100 (-(sh H 0 1)) (sh H 0 p) (-(sh H 1 0)) 100 (sh H 1 p) (-(sh H 2 0)) (-(sh H 2 1)) (sh H 2 p) := fun _ => rfl
      generalize sh H 0 1 = x at *
      generalize sh H 0 2 = y at *
      generalize sh H 1 0 = z at *
      generalize sh H 1 2 = u at *
      generalize sh H 2 0 = v at *
      generalize sh H 2 1 = t at *
      refine ⟨100 * v + z * t, 100 * t + x * v, 10000 - x * z, by omega, by omega, by omega, fun p => ?_, fun h => by omega, fun h => by omega, ?_⟩
      · rw [e3]
        unfold d3 d2
        grind
      · rw [if_neg (by omega), if_neg (by omega)]
        unfold d3 d2
        grind
theorem sh_out (h : shP H s n) (a b : Nat) (ha : s ≤ a) : sh H a b = 0 := by
  unfold sh
  have : rd_L2 H (a : Int) = [] := by
    show H.getD a [] = []
    rw [List.getD_eq_getElem?_getD, List.getElem?_eq_none (by have := h.2.2.1; omega)]
    rfl
  rw [this]
  rfl
theorem put_bd (h : shP H s n) (i p : Nat) (hi : i < s) : 0 ≤ put H s i p ∧ put H s i p ≤ 6000000 := by
  obtain ⟨a, b, c, ha, hb, hc, hp, _⟩ := put_forms h i hi
  rw [hp]
  have k : ∀ a, 0 ≤ sh H a p ∧ sh H a p ≤ 100 := fun a => by
    by_cases ha : a < s
    · exact sh_in h a p ha
    · rw [sh_out h a p (by omega)]; omega
  have q0 := mul_up (k 0).1 (k 0).2 ha.1 ha.2
  have q1 := mul_up (k 1).1 (k 1).2 hb.1 hb.2
  have q2 := mul_up (k 2).1 (k 2).2 hc.1 hc.2
  omega
theorem put_sum (h : shP H s n) (i : Nat) (hi : i < s) : sm (fun j => put H s i (s + j)) (n - s) = dN s (me H) := by
  obtain ⟨a, b, c, _, _, _, hp, hb, hc, he⟩ := put_forms h i hi
  rw [sm_congr (g := fun j => sh H 0 (s + j) * a + sh H 1 (s + j) * b + sh H 2 (s + j) * c) (n - s) (fun j _ => hp _), sm_lin, row_rest h 0 (by have := h.1; omega), ← he]
  by_cases h2 : s < 2
  · rw [if_pos h2, if_pos (by omega), hb h2, hc (by omega)]
    omega
  · rw [if_neg h2, row_rest h 1 (by omega)]
    by_cases h3 : s < 3
    · rw [if_pos h3, hc h3]
      omega
    · rw [if_neg h3, row_rest h 2 (by omega)]
end
end Go.Proofs.Ytadehdkmggpehaa.PFnMutualWhole

set_option linter.unusedVariables false
set_option linter.unusedSimpArgs false
namespace Go.Proofs.Ytadehdkmggpehaa.PFnMutualWhole
open Go Go.RowKit Go.Proofs.YtadehdkmggpehaaW.PrintWords Go.Proofs.YtadehdkmggpehaaW.PrintLast Go.Proofs.Ytadehdkmggpehaa.MapWords Go.Proofs.Ytadehdkmggpehaa.IterWords Go.Proofs.Ytadehdkmggpehaa.EvWords
open Classical
noncomputable def shr (T : Int) (ws : List Int) : List Int := if h : ws.length ≤ 1000 then Classical.choose (shares_two T ws h) else []
theorem shr_all {T : Int} {ws : List Int} (h : ws.length ≤ 1000) : Ev (fun k => impl_Shares.f k T ws) (shr T ws) ∧ Ev (fun k => spec_Shares.f k T ws) (shr T ws) ∧
    (shr T ws ≠ [] → amt T ∧ (shr T ws).length = ws.length ∧ sm (ri (shr T ws)) ws.length = T ∧ ∀ j, -300000000000 ≤ ri (shr T ws) j ∧ ri (shr T ws) j ≤ 300000000000) ∧
    (amt T → ws.length ≤ 200 → ws ≠ [] → (∀ j, j < ws.length → fac (ri ws j)) → sm (ri ws) ws.length ≠ 0 → shr T ws ≠ []) := by
  have := Classical.choose_spec (shares_two T ws h)
  unfold shr
  rw [dif_pos h]
  exact this
theorem tab_congr {f g : Nat → Int} {n : Nat} (h : ∀ j, j < n → f j = g j) : tab f n = tab g n := by
  refine ri_ext (by rw [tab_len, tab_len]) (fun j hj => ?_)
  rw [tab_len] at hj
  rw [tab_at _ _ _ hj, tab_at _ _ _ hj, h j hj]
theorem tab_set (f : Nat → Int) (n j : Nat) (x : Int) (hj : j < n) : (tab f n).set j x = tab (fun k => if j = k then x else f k) n := by
  refine ri_ext (by rw [List.length_set, tab_len, tab_len]) (fun k hk => ?_)
  rw [tab_len] at hk
  rw [ri_set _ _ _ _ (by rw [tab_len]; exact hj), tab_at _ _ _ hk, tab_at _ _ _ hk]
theorem tab_bd {f : Nat → Int} {n : Nat} (h : ∀ j, j < n → -100 ≤ f j ∧ f j ≤ 100) (j : Nat) : -100 ≤ ri (tab f n) j ∧ ri (tab f n) j ≤ 100 := by
  by_cases hj : j < n
  · rw [tab_at _ _ _ hj]; exact h j hj
  · have : ri (tab f n) j = 0 := by
      unfold ri
      rw [List.getD_eq_getElem?_getD, List.getElem?_eq_none (by rw [tab_len]; omega)]
      rfl
    omega
def costsP (L : List Int) : Prop := (1 ≤ L.length ∧ L.length ≤ 200) ∧ ∀ j, j < L.length → amt (ri L j)
theorem costs_i (L : List Int) (hn : L.length ≤ 1048576) : Ev (fun k => impl_costsOk.f k L) (decide (costsP L)) := by
  obtain ⟨i1, i2⟩ := ev_loop (F := fun k x => impl_costsOk.l0 k L (L.length : Int) x) (n := L.length) (p := fun j => amt (ri L j)) (R := true) (bad := false)
    (fun _ => by
      refine Ev.step (fun _ => rfl) ?_
      simp only [impl_costsOk.l0]
      exact ev_neg (by omega) (ev_some _))
    (fun i r hi _ hp h => by
      refine Ev.step (fun _ => rfl) ?_
      simp only [impl_costsOk.l0, ri_rd]
      rw [wrap_succ hi (by omega)]
      exact ev_pos (by omega) (ev_pos (by omega) (ev_pos (by omega) (ev_bind0 (amt_i _) (ev_pos (decide_eq_true hp) h)))))
    (fun i hi _ hp => by
      refine Ev.step (fun _ => rfl) ?_
      simp only [impl_costsOk.l0, ri_rd]
      exact ev_pos (by omega) (ev_pos (by omega) (ev_pos (by omega) (ev_bind0 (amt_i _) (ev_neg (by simpa using hp) (ev_some _))))))
  have cj : ∀ b : Bool, (b = true ↔ ¬ (1 ≤ L.length ∧ L.length ≤ 200)) → Ev (fun k => impl_costsOk.j0 k L b) (decide (costsP L)) := by
    intro b hb
    refine Ev.step (fun _ => rfl) ?_
    simp only [impl_costsOk.j0]
    by_cases hl : 1 ≤ L.length ∧ L.length ≤ 200
    · refine ev_neg (fun h => hb.1 h hl) ?_
      by_cases ha : ∀ j, j < L.length → amt (ri L j)
      · rw [decide_eq_true (show costsP L from ⟨hl, ha⟩)]; exact i1 ha
      · rw [decide_eq_false (fun h : costsP L => ha h.2)]; exact i2 ha
    · rw [decide_eq_false (fun h : costsP L => hl h.1)]
      exact ev_pos (hb.2 hl) (ev_some _)
  unfold impl_costsOk.f
  by_cases h1 : (L.length : Int) < 1
  · exact ev_pos h1 (cj _ ⟨fun _ h => by omega, fun _ => rfl⟩)
  · exact ev_neg h1 (cj _ ⟨fun h h2 => by have := of_decide_eq_true h; omega, fun h => decide_eq_true (by omega)⟩)
theorem costs_s (L : List Int) (hn : L.length ≤ 1048576) : Ev (fun k => spec_l7Costs.f k L) (decide (costsP L)) := by
  obtain ⟨k1, k2⟩ := ev_loop (F := fun k x => spec_l7Costs.l0 k L x) (n := L.length) (p := fun j => amt (ri L j)) (R := decide (1 ≤ L.length ∧ L.length ≤ 200)) (bad := false)
    (fun _ => by
      refine Ev.step (fun _ => rfl) ?_
      simp only [spec_l7Costs.l0]
      exact ev_neg (by omega) (ev_bind0 (l1In_eq _ _ _) (ev_eq (ev_some _) (decide_eq_decide.2 ⟨fun h => by omega, fun h => by omega⟩))))
    (fun i r hi _ hp h => by
      refine Ev.step (fun _ => rfl) ?_
      simp only [spec_l7Costs.l0, ri_rd]
      rw [wrap_succ hi (by omega)]
      exact ev_pos (by omega) (ev_pos (by omega) (ev_bind0 (amt_s _) (ev_pos (decide_eq_true hp) h))))
    (fun i hi _ hp => by
      refine Ev.step (fun _ => rfl) ?_
      simp only [spec_l7Costs.l0, ri_rd]
      exact ev_pos (by omega) (ev_pos (by omega) (ev_bind0 (amt_s _) (ev_neg (by simpa using hp) (ev_some _)))))
  unfold spec_l7Costs.f
  by_cases ha : ∀ j, j < L.length → amt (ri L j)
  · refine ev_eq (k1 ha) (decide_eq_decide.2 ⟨fun h => ⟨h, ha⟩, fun h => h.1⟩)
  · rw [decide_eq_false (fun h : costsP L => ha h.2)]; exact k2 ha
section
variable (H : List (List Int)) (s : Nat)
def sqm (i k : Nat) (j : Nat) : Int := if j / 3 < i ∧ j % 3 < s then me H (j / 3) (j % 3) else if j / 3 = i ∧ j % 3 < k then -(sh H i (j % 3)) else 0
def cf (i p t : Nat) (j : Nat) : Int := if j % 3 = i ∧ j / 3 < t then sh H (j / 3) p else sqm H s s 0 j
end
section
variable {L : List Int} {H : List (List Int)} {s : Nat}
theorem impl_fill (hs : 1 ≤ s ∧ s ≤ 3) (i : Nat) (hi : i < s) (hr : s < (rd_L2 H (i : Int)).length) (hb : ∀ j, j < s → 0 ≤ sh H i j ∧ sh H i j ≤ 100) (Q : List (List Int) × Bool)
    (h : Ev (fun k => impl_mutual.l0 k L (s : Int) H (tab (sqm H s (i + 1) 0) 9) H (H.length : Int) ((i + 1 : Nat) : Int)) Q) :
    Ev (fun k => impl_mutual.l2 k L (s : Int) H (tab (sqm H s i 0) 9) (i : Int) (rd_L2 H (i : Int)) 0 H (H.length : Int) (i : Int)) Q := by
  have ew : wrap64 ((i : Int) + 1) = ((i + 1 : Nat) : Int) := wrap_succ hi (by omega)
  have := ev_pass (F := fun k x => impl_mutual.l2 k L (s : Int) H (tab (sqm H s i x.toNat) 9) (i : Int) (rd_L2 H (i : Int)) x H (H.length : Int) (i : Int)) (n := s) (R := Q)
    (by
      refine Ev.step (fun _ => rfl) ?_
      simp only [impl_mutual.l2, Int.toNat_natCast]
      have e1 : ((i : Int) * 3 + (i : Int)).toNat = i * 3 + i := by omega
      refine ev_neg (by omega) (ev_pos (by omega) (ev_pos (by omega) (ev_pos (by omega) (ev_pos (by omega) (ev_pos (by rw [tab_len]; omega) ?_)))))
      rw [e1, ew, tab_set _ _ _ _ (by omega), tab_congr (g := sqm H s (i + 1) 0) (fun j hj => ?_)]
      · exact h
      · unfold sqm
        by_cases c1 : i * 3 + i = j
        · rw [if_pos c1, if_pos (by omega), show j / 3 = i by omega, show j % 3 = i by omega]
          exact (if_pos rfl).symm
        · rw [if_neg c1]
          by_cases c2 : j / 3 < i ∧ j % 3 < s
          · rw [if_pos c2, if_pos (by omega)]
          · rw [if_neg c2]
            by_cases c3 : j / 3 = i ∧ j % 3 < s
            · rw [if_pos c3, if_pos (by omega), c3.1]
              exact (if_neg (by omega)).symm
            · rw [if_neg c3, if_neg (by omega), if_neg (by omega)])
    (fun t q ht hq => by
      refine Ev.step (fun _ => rfl) ?_
      simp only [impl_mutual.l2, Int.toNat_natCast, ri_rd]
      have e1 : ((i : Int) * 3 + (t : Int)).toNat = i * 3 + t := by omega
      have e2 : wrap64 ((t : Int) + 1) = ((t + 1 : Nat) : Int) := wrap_succ ht (by omega)
      have b := hb t ht
      have e3 : wrap64 (-(ri (rd_L2 H (i : Int)) t)) = -(sh H i t) := wrap_id (by unfold sh at b; omega) (by unfold sh at b; omega)
      refine ev_pos (by omega) (ev_pos (by omega) (ev_pos (by omega) (ev_pos (by omega) (ev_pos (by omega) (ev_pos (by omega) (ev_pos (by omega) (ev_pos (by omega) (ev_pos (by rw [tab_len]; omega) ?_))))))))
      have e4 : (((t + 1 : Nat) : Int)).toNat = t + 1 := Int.toNat_natCast _
      simp only [e4] at hq
      rw [e1, e2, e3, tab_set _ _ _ _ (by omega), tab_congr (g := sqm H s i (t + 1)) (fun j hj => ?_)]
      · exact hq
      · unfold sqm
        by_cases c1 : i * 3 + t = j
        · rw [if_pos c1, if_neg (by omega), if_pos (by omega), show j % 3 = t by omega]
        · rw [if_neg c1]
          by_cases c2 : j / 3 < i ∧ j % 3 < s
          · rw [if_pos c2, if_pos c2]
          · rw [if_neg c2, if_neg c2]
            by_cases c3 : j / 3 = i ∧ j % 3 < t
            · rw [if_pos c3, if_pos (by omega)]
            · rw [if_neg c3, if_neg (by omega)])
  exact this
theorem impl_row (hL : L.length ≤ 1048576) (hs : 1 ≤ s ∧ s ≤ 3) (hn : s < L.length) (hn2 : L.length ≤ 200) (hH : H.length = s) (i : Nat) (hi : i < s) (Q : List (List Int) × Bool)
    (h : rowP H L.length i → Ev (fun k => impl_mutual.l0 k L (s : Int) H (tab (sqm H s (i + 1) 0) 9) H (H.length : Int) ((i + 1 : Nat) : Int)) Q) (hbad : ¬ rowP H L.length i → Q = ([], false)) :
    Ev (fun k => impl_mutual.l0 k L (s : Int) H (tab (sqm H s i 0) 9) H (H.length : Int) (i : Int)) Q := by
  have j2 : ∀ b : Bool, b = true → ¬ rowP H L.length i → Ev (fun k => impl_mutual.j2 k L (s : Int) H (tab (sqm H s i 0) 9) (i : Int) (rd_L2 H (i : Int)) H (H.length : Int) (i : Int) b) Q := by
    intro b hb hr
    rw [hbad hr]
    refine Ev.step (fun _ => rfl) ?_
    simp only [impl_mutual.j2]
    exact ev_pos hb (ev_some _)
  refine Ev.step (fun _ => rfl) ?_
  simp only [impl_mutual.l0]
  refine ev_pos (by omega) (ev_pos (by omega) (ev_pos (by omega) ?_))
  by_cases c1 : (rd_L2 H (i : Int)).length = L.length
  · refine ev_pos (by omega) (ev_pos (by omega) ?_)
    simp only [ri_rd]
    by_cases c2 : sh H i i = 0
    · refine Ev.step (fun _ => rfl) ?_
      simp only [impl_mutual.j2]
      refine ev_neg (by rw [show ri (rd_L2 H (i : Int)) i = 0 from c2]; decide) ?_
      obtain ⟨g1, g2⟩ := ev_loop (F := fun k x => impl_mutual.l1 k L (s : Int) H (tab (sqm H s i 0) 9) (i : Int) (rd_L2 H (i : Int)) H (H.length : Int) (i : Int) (rd_L2 H (i : Int)) ((rd_L2 H (i : Int)).length : Int) x) (n := (rd_L2 H (i : Int)).length) (p := fun j => 0 ≤ sh H i j ∧ sh H i j ≤ 100) (R := Q) (bad := ([], false))
        (fun hall => by
          refine Ev.step (fun _ => rfl) ?_
          simp only [impl_mutual.l1]
          refine ev_neg (by omega) (ev_bind (sumOf_ev (rd_L2 H (i : Int)) 100 (by omega) (by omega) (by omega) (fun j hj => by have := hall j hj; unfold sh at this; omega)) ?_)
          by_cases c3 : sm (ri (rd_L2 H (i : Int))) (rd_L2 H (i : Int)).length = 100
          · refine ev_pos c3 (impl_fill hs i hi (by omega) (fun j hj => hall j (by omega)) Q (h ⟨c1, c2, fun j hj => hall j (by omega), ?_⟩))
            rw [c1] at c3
            exact c3
          · rw [hbad (fun hr => c3 (by rw [c1]; exact hr.2.2.2))]
            exact ev_neg c3 (ev_some _))
        (fun t q ht _ hp hq => by
          refine Ev.step (fun _ => rfl) ?_
          simp only [impl_mutual.l1, ri_rd]
          rw [wrap_succ ht (by omega)]
          exact ev_pos (by omega) (ev_pos (by omega) (ev_pos (by omega) (ev_bind0 (between_eq _ _ _) (ev_pos (decide_eq_true hp) hq)))))
        (fun t ht _ hp => by
          refine Ev.step (fun _ => rfl) ?_
          simp only [impl_mutual.l1, ri_rd]
          exact ev_pos (by omega) (ev_pos (by omega) (ev_pos (by omega) (ev_bind0 (between_eq _ _ _) (ev_neg (by rw [decide_eq_true_eq]; exact hp) (ev_some _))))))
      by_cases hall : ∀ j, j < (rd_L2 H (i : Int)).length → 0 ≤ sh H i j ∧ sh H i j ≤ 100
      · exact g1 hall
      · rw [hbad (fun hr => hall (fun j hj => hr.2.2.1 j (by omega)))]
        exact g2 hall
    · exact j2 _ (bne_iff_ne.2 c2) (fun hr => c2 hr.2.1)
  · exact ev_neg (by omega) (j2 _ rfl (fun hr => c1 hr.1))
theorem sqm_me (i : Nat) (a b : Nat) (ha : a < s) (hb : b < s) (hs : s ≤ 3) : sqm H s s 0 (a * 3 + b) = me H a b := by
  unfold sqm
  have e1 : (a * 3 + b) / 3 = a := by omega
  have e2 : (a * 3 + b) % 3 = b := by omega
  rw [e1, e2, if_pos ⟨ha, hb⟩]
theorem sqm_bd (n : Nat) (h : shP H s n) (j : Nat) : -100 ≤ sqm H s s 0 j ∧ sqm H s s 0 j ≤ 100 := by
  unfold sqm
  by_cases c : j / 3 < s ∧ j % 3 < s
  · rw [if_pos c]; exact me_bd h _ _ c.1
  · rw [if_neg c, if_neg (by omega)]; omega
theorem cf_bd (n : Nat) (h : shP H s n) (i p t : Nat) (ht : t ≤ s) (j : Nat) : -100 ≤ cf H s i p t j ∧ cf H s i p t j ≤ 100 := by
  unfold cf
  by_cases c : j % 3 = i ∧ j / 3 < t
  · rw [if_pos c]
    have := sh_in h (j / 3) p (by omega)
    omega
  · rw [if_neg c]; exact sqm_bd n h j
theorem det_me (n : Nat) (h : shP H s n) : impl_determinant.f (tab (sqm H s s 0) 9) (s : Int) = some (dN s (me H)) := by
  rw [impl_det _ (tab_len _ _) (tab_bd (fun j _ => sqm_bd n h j)) s h.1, dN_congr h.1 (fun a b ha hb => ?_)]
  have := h.1
  rw [tab_at _ _ _ (by omega), sqm_me 0 a b ha hb (by omega)]
theorem det_put (n : Nat) (h : shP H s n) (i p : Nat) (hi : i < s) : impl_determinant.f (tab (cf H s i p s) 9) (s : Int) = some (put H s i p) := by
  rw [impl_det _ (tab_len _ _) (tab_bd (fun j _ => cf_bd n h i p s (Nat.le_refl _) j)) s h.1]
  unfold put
  rw [dN_congr h.1 (fun a b ha hb => ?_)]
  have := h.1
  rw [tab_at _ _ _ (by omega)]
  unfold cf
  have e1 : (a * 3 + b) / 3 = a := by omega
  have e2 : (a * 3 + b) % 3 = b := by omega
  rw [sqm_me 0 a b ha hb (by omega), e1, e2]
  by_cases c : b = i
  · rw [if_pos ⟨c, ha⟩, if_pos c]
  · rw [if_neg (fun h => c h.1), if_neg c]
noncomputable def wts (H : List (List Int)) (s n i : Nat) : List Int := tab (fun j => put H s i (s + j)) (n - s)
noncomputable def gives (L : List Int) (H : List (List Int)) (s i : Nat) : List Int := shr (ri L i) (wts H s L.length i)
theorem impl_put (n : Nat) (h : shP H s n) (i p : Nat) (hi : i < s) (hp : p < n) (ps : List (List Int)) (ws : List Int) (hw : ws.length ≤ 1000) (Q : List (List Int) × Bool) (M : List Int)
    (hq : Ev (fun k => impl_mutual.l4 k L (s : Int) H M ps (i : Int) (ws ++ [put H s i p]) ((p + 1 : Nat) : Int)) Q) (hpn : p ≤ 1048576) :
    Ev (fun k => impl_mutual.l5 k L (s : Int) H M ps (i : Int) ws (p : Int) (tab (sqm H s s 0) 9) 0) Q := by
  have hs := h.1
  have := ev_pass (F := fun k x => impl_mutual.l5 k L (s : Int) H M ps (i : Int) ws (p : Int) (tab (cf H s i p x.toNat) 9) x) (n := s) (R := Q)
    (by
      refine Ev.step (fun _ => rfl) ?_
      simp only [impl_mutual.l5, Int.toNat_natCast]
      refine ev_neg (by omega) (ev_pos (tab_len _ _) (ev_bind0 (det_put n h i p hi) (ev_pos (by omega) ?_)))
      rw [show wrap64 ((p : Int) + 1) = ((p + 1 : Nat) : Int) from wrap_succ (n := p + 1) (by omega) (by omega)]
      exact hq)
    (fun t q ht hq => by
      refine Ev.step (fun _ => rfl) ?_
      have hrow := (h.2.2.2 t ht).1
      have hHl := h.2.2.1
      simp only [impl_mutual.l5, Int.toNat_natCast, ri_rd]
      have e1 : ((t : Int) * 3 + (i : Int)).toNat = t * 3 + i := by omega
      have e2 : wrap64 ((t : Int) + 1) = ((t + 1 : Nat) : Int) := wrap_succ ht (by omega)
      refine ev_pos (by omega) (ev_pos (by omega) (ev_pos (by omega) (ev_pos (by omega) (ev_pos (by omega) (ev_pos (by omega) (ev_pos (by omega) (ev_pos (by omega) (ev_pos (by omega) (ev_pos (by omega) (ev_pos (by rw [tab_len]; omega) ?_))))))))))
      have e4 : (((t + 1 : Nat) : Int)).toNat = t + 1 := Int.toNat_natCast _
      simp only [e4] at hq
      rw [e1, e2, tab_set _ _ _ _ (by omega), tab_congr (g := cf H s i p (t + 1)) (fun j hj => ?_)]
      · exact hq
      · unfold cf
        by_cases c1 : t * 3 + i = j
        · rw [if_pos c1, if_pos (by omega), show j / 3 = t by omega]
          rfl
        · rw [if_neg c1]
          by_cases c2 : j % 3 = i ∧ j / 3 < t
          · rw [if_pos c2, if_pos (by omega)]
          · rw [if_neg c2, if_neg (by omega)])
  have e0 : tab (cf H s i p 0) 9 = tab (sqm H s s 0) 9 := tab_congr (fun j _ => by unfold cf; rw [if_neg (by omega)])
  have h0 : (0 : Int).toNat = 0 := rfl
  simp only [h0, e0] at this
  exact this
end
end Go.Proofs.Ytadehdkmggpehaa.PFnMutualWhole
