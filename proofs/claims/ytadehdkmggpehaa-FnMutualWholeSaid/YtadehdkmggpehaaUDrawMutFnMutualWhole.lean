import Derived.Test.YtadehdkmggpehaaUMut4FnMutualWhole
import Derived.Test.YtadehdkmggpehaaUDrawFnMutualWhole
set_option linter.unusedVariables false
set_option linter.unusedSimpArgs false
namespace Go.Proofs.Ytadehdkmggpehaa.PFnMutualWhole
open Go Go.RowKit Go.Proofs.YtadehdkmggpehaaW.PrintWords Go.Proofs.YtadehdkmggpehaaW.PrintLast Go.Proofs.Ytadehdkmggpehaa.MapWords Go.Proofs.Ytadehdkmggpehaa.IterWords Go.Proofs.Ytadehdkmggpehaa.EvWords
open Classical
noncomputable def trs (L : List Int) (H : List (List Int)) (s p : Nat) : List Int := tab (fun i => ri (gives L H s i) (p - s)) s
def trP (L : List Int) (a : Int) (H : List (List Int)) (p : Int) : Prop := (costsP L ∧ 0 ≤ a ∧ mutP L H a.toNat) ∧ a ≤ p ∧ p < L.length
noncomputable def trc (L : List Int) (a : Int) (H : List (List Int)) (p : Int) : List Int × Bool := if trP L a H p then (trs L H a.toNat p.toNat, true) else ([], false)
section
variable {L : List Int} {H : List (List Int)} {s p : Nat}
theorem impl_trs (hc : costsP L) (h : mutP L H s) (hp : s ≤ p ∧ p < L.length) : Ev (fun k => impl_Trace.l0 k (s : Int) (p : Int) (gvs L H s s) [] ((gvs L H s s).length : Int) 0) (trs L H s p, true) := by
  have hs := h.1.1
  have hn := hc.1
  have e1 : wrap64 ((p : Int) - (s : Int)) = ((p - s : Nat) : Int) := (wrap_id (by omega) (by omega)).trans (by omega)
  have hl : (gvs L H s s).length = s := gvs_len _
  have := ev_pass (F := fun k x => impl_Trace.l0 k (s : Int) (p : Int) (gvs L H s s) (tab (fun i => ri (gives L H s i) (p - s)) x.toNat) ((gvs L H s s).length : Int) x) (n := s) (R := (trs L H s p, true))
    (by
      refine Ev.step (fun _ => rfl) ?_
      simp only [impl_Trace.l0, Int.toNat_natCast]
      exact ev_neg (by omega) (ev_some _))
    (fun i q hi hq => by
      obtain ⟨_, g2, _, _⟩ := gives_ok hc h.1 h.2.1 i hi
      refine Ev.step (fun _ => rfl) ?_
      have e4 : (((i + 1 : Nat) : Int)).toNat = i + 1 := Int.toNat_natCast _
      simp only [e4, tab_succ] at hq
      simp only [impl_Trace.l0, Int.toNat_natCast, gvs_at s i hi, e1, ri_rd]
      rw [wrap_succ hi (by omega)]
      exact ev_pos (by omega) (ev_pos (by omega) (ev_pos (by omega) (ev_pos (by omega) (ev_pos (by omega) (ev_pos (by rw [tab_len]; omega) hq))))))
  exact this
end
theorem implTrace {L : List Int} {H : List (List Int)} (hL : L.length ≤ 1048576) (hH : H.length ≤ 1048576) (a p : Int) : Ev (fun k => impl_Trace.f k L a H p) (trc L a H p) := by
  have bad : ∀ (b : Bool) (g : List (List Int)), b = true → ¬ trP L a H p → Ev (fun k => impl_Trace.j0 k a p g b) (trc L a H p) := by
    intro b g hb hg
    unfold trc
    rw [if_neg hg]
    refine Ev.step (fun _ => rfl) ?_
    simp only [impl_Trace.j0]
    exact ev_pos hb (ev_some _)
  unfold impl_Trace.f
  refine ev_bind (implMut hL hH a) ?_
  by_cases h : costsP L ∧ 0 ≤ a ∧ mutP L H a.toNat
  · rw [if_pos h]
    refine ev_pos rfl ?_
    by_cases h1 : p < a
    · exact ev_pos h1 (bad _ _ rfl (fun k => by have := k.2.1; omega))
    · refine ev_neg h1 ?_
      by_cases h2 : p < L.length
      · refine Ev.step (fun _ => rfl) ?_
        simp only [impl_Trace.j0]
        refine ev_neg (by rw [decide_eq_true_eq]; omega) ?_
        unfold trc
        rw [if_pos ⟨h, by omega, h2⟩]
        have := impl_trs (s := a.toNat) (p := p.toNat) h.1 h.2.2 (by omega)
        rw [show ((a.toNat : Nat) : Int) = a by omega, show ((p.toNat : Nat) : Int) = p by omega] at this
        exact this
      · exact bad _ _ (decide_eq_true (by omega)) (fun k => h2 k.2.2)
  · rw [if_neg h]
    exact ev_neg (by decide) (bad _ _ rfl (fun k => h k.1))
theorem trc_len (L : List Int) (a : Int) (H : List (List Int)) (p : Int) : (trc L a H p).1.length ≤ 3 := by
  unfold trc
  split
  · rename_i h
    show (trs L H a.toNat p.toNat).length ≤ 3
    unfold trs
    rw [tab_len]
    exact h.1.2.2.1.1.2
  · simp
end Go.Proofs.Ytadehdkmggpehaa.PFnMutualWhole

set_option linter.unusedVariables false
set_option linter.unusedSimpArgs false
namespace Go.Proofs.Ytadehdkmggpehaa.PFnMutualWhole
open Go Go.RowKit Go.Proofs.YtadehdkmggpehaaW.PrintWords Go.Proofs.YtadehdkmggpehaaW.PrintLast Go.Proofs.Ytadehdkmggpehaa.MapWords Go.Proofs.Ytadehdkmggpehaa.IterWords Go.Proofs.Ytadehdkmggpehaa.EvWords
open Classical
section
variable {s : List Int} {p h : Int}
theorem d_spoil (a : Int) (l : List Int) (h0 : 0 < l.length) (hl : l.length ≤ 1000) (c : curP s p) : ∃ x p' h', spec_l1Spoil.f s p h a l = some (x, p', h') ∧ curP s p' := by
  unfold spec_l1Spoil.f
  obtain ⟨b, p1, g1, e1, c1⟩ := d_once (h := h) 40 (by omega) c
  rw [ob e1]
  by_cases hb : b = true
  · rw [if_pos hb]
    obtain ⟨x, p2, g2, e2, _, c2⟩ := d_pickInt (h := g1) l h0 hl c1
    rw [ob e2]
    exact ⟨_, _, _, rfl, c2⟩
  · rw [if_neg hb]
    exact ⟨_, _, _, rfl, c1⟩
theorem d_amount (c : curP s p) : ∃ x p' h', spec_l1DrawAmount.f s p h = some (x, p', h') ∧ curP s p' := by
  unfold spec_l1DrawAmount.f
  obtain ⟨x, p1, g1, e1, _, c1⟩ := d_below (h := h) 12 (by omega) c
  rw [ob e1]
  by_cases h0 : x = 0
  · rw [if_pos h0]
    obtain ⟨y, p2, g2, e2, _, c2⟩ := d_pickInt (h := g1) [0, 1, (-1), 100000000000, (-100000000000), 99999999999, 99, 100, 101] (by simp) (by simp) c1
    rw [ob e2]
    exact ⟨_, _, _, rfl, c2⟩
  · rw [if_neg h0]
    by_cases h1 : x = 1
    · rw [if_pos h1]
      obtain ⟨y, p2, g2, e2, _, c2⟩ := d_below (h := g1) 100000000000 (by omega) c1
      rw [ob e2]
      exact ⟨_, _, _, rfl, c2⟩
    · rw [if_neg h1]
      by_cases h2 : x = 2
      · rw [if_pos h2]
        obtain ⟨y, p2, g2, e2, _, c2⟩ := d_below (h := g1) 1000000 (by omega) c1
        rw [ob e2]
        exact ⟨_, _, _, rfl, c2⟩
      · rw [if_neg h2]
        obtain ⟨y, p2, g2, e2, _, c2⟩ := d_below (h := g1) 100000 (by omega) c1
        rw [ob e2]
        exact ⟨_, _, _, rfl, c2⟩
theorem d_factor (c : curP s p) : ∃ x p' h', spec_l1DrawFactor.f s p h = some (x, p', h') ∧ curP s p' := by
  unfold spec_l1DrawFactor.f
  obtain ⟨b, p1, g1, e1, c1⟩ := d_once (h := h) 6 (by omega) c
  rw [ob e1]
  by_cases hb : b = true
  · rw [if_pos hb]
    obtain ⟨y, p2, g2, e2, _, c2⟩ := d_pickInt (h := g1) [0, 1, 10000000, 9999999, 2, 3] (by simp) (by simp) c1
    rw [ob e2]
    exact ⟨_, _, _, rfl, c2⟩
  · rw [if_neg hb]
    obtain ⟨y, p2, g2, e2, _, c2⟩ := d_below (h := g1) 2000 (by omega) c1
    rw [ob e2]
    exact ⟨_, _, _, rfl, c2⟩
theorem wrap_pre (d : Nat) (hd : d ≤ 1000) : wrap64 (((d + 1 : Nat) : Int) - 1) = (d : Int) := by rw [wrap_id (by omega) (by omega)]; omega
theorem d_costs : ∀ (d : Nat) (acc : List Int) (p h : Int), acc.length + d ≤ 1000 → curP s p → EvP (fun k => spec_l7DrawCosts.l0 k (d : Int) acc s p h) (fun r => r.1.length = acc.length + d ∧ curP s r.2.1) := by
  intro d
  induction d with
  | zero =>
    intro acc p h hd c
    refine evp_step (fun _ => rfl) ?_
    simp only [spec_l7DrawCosts.l0]
    exact evp_neg (by omega) (evp_some ⟨rfl, c⟩)
  | succ d ih =>
    intro acc p h hd c
    obtain ⟨x, p1, g1, e1, c1⟩ := d_amount (h := h) c
    obtain ⟨y, p2, g2, e2, c2⟩ := d_spoil (h := g1) (wrap64 (Int.tdiv x 3)) [100000000000, 100000000001, (-100000000000)] (by simp) (by simp) c1
    refine evp_step (fun _ => rfl) ?_
    simp only [spec_l7DrawCosts.l0]
    rw [wrap_pre d (by omega)]
    exact evp_pos (by omega) (evp_bind0 e1 (evp_bind0 e2 (evp_pos (by omega) (evp_mono (ih _ p2 g2 (by simp; omega) c2) (fun r hr => ⟨by rw [hr.1]; simp; omega, hr.2⟩)))))
theorem d_weights : ∀ (d : Nat) (acc : List Int) (p h : Int), acc.length + d ≤ 1000 → curP s p → EvP (fun k => spec_l1DrawWeights.l0 k (d : Int) acc s p h) (fun r => r.1.length = acc.length + d ∧ curP s r.2.1) := by
  intro d
  induction d with
  | zero =>
    intro acc p h hd c
    refine evp_step (fun _ => rfl) ?_
    simp only [spec_l1DrawWeights.l0]
    exact evp_neg (by omega) (evp_some ⟨rfl, c⟩)
  | succ d ih =>
    intro acc p h hd c
    obtain ⟨x, p1, g1, e1, _, c1⟩ := d_below (h := h) 20 (by omega) c
    obtain ⟨b, p2, g2, e2, c2⟩ := d_once (h := g1) 8 (by omega) c1
    have more : ∀ (w p h : Int), curP s p → EvP (fun k => spec_l1DrawWeights.l0 k (d : Int) (acc ++ [w]) s p h) (fun r => r.1.length = acc.length + (d + 1) ∧ curP s r.2.1) := fun w p h c => evp_mono (ih (acc ++ [w]) p h (by simp; omega) c) (fun r hr => ⟨by rw [hr.1]; simp; omega, hr.2⟩)
    refine evp_step (fun _ => rfl) ?_
    simp only [spec_l1DrawWeights.l0]
    rw [wrap_pre d (by omega)]
    refine evp_pos (by omega) (evp_bind0 e1 (evp_bind0 e2 ?_))
    by_cases hb : b = true
    · obtain ⟨y, p3, g3, e3, c3⟩ := d_factor (h := g2) c2
      obtain ⟨z, p4, g4, e4, c4⟩ := d_spoil (h := g3) y [y, y, y, (-1), 10000001] (by simp) (by simp) c3
      exact evp_pos hb (evp_bind0 e3 (evp_bind0 e4 (evp_pos (by omega) (more _ _ _ c4))))
    · obtain ⟨z, p4, g4, e4, c4⟩ := d_spoil (h := g2) x [x, x, x, (-1), 10000001] (by simp) (by simp) c2
      exact evp_neg hb (evp_bind0 e4 (evp_pos (by omega) (more _ _ _ c4)))
def okM (r : List Int × Int × List (List Int) × Int × Int) : Prop := r.1.length ≤ 1000 ∧ r.2.2.1.length ≤ 1000
theorem sm_pos {f : Nat → Int} {j : Nat} (h1 : 1 ≤ f j) : ∀ n, (∀ i, i < n → 0 ≤ f i) → (0 ≤ sm f n) ∧ (j < n → 1 ≤ sm f n)
  | 0, _ => ⟨by simp [sm], fun h => absurd h (by omega)⟩
  | n + 1, h => by
    obtain ⟨g1, g2⟩ := sm_pos h1 n (fun i hi => h i (by omega))
    have := h n (by omega)
    simp only [sm]
    refine ⟨by omega, fun hj => ?_⟩
    by_cases c : j = n
    · subst c; omega
    · have := g2 (by omega); omega
theorem dm_share {n : Nat} (hn : 1 ≤ n ∧ n ≤ 200) (ws : List Int) (hl : ws.length = n) (hf : ∀ j, j < n → 0 ≤ ri ws j ∧ ri ws j ≤ 10000000) (j : Nat) (hj : j < n) (h1 : 1 ≤ ri ws j) : ∃ r, Ev (fun k => spec_Shares.f k 100 ws) r ∧ r.length = n := by
  obtain ⟨_, g2, g3, g4⟩ := shr_all (T := 100) (ws := ws) (by omega)
  refine ⟨_, g2, ?_⟩
  have hne : shr 100 ws ≠ [] := g4 (by unfold amt; omega) (by omega) (fun e => by rw [e] at hl; simp at hl; omega) (fun j hj => by
    have := hf j (by omega)
    unfold fac
    omega) (by
    have := (sm_pos h1 n (fun i hi => (hf i hi).1)).2 hj
    rw [hl]
    omega)
  rw [(g3 hne).2.1, hl]
theorem rdl_set (F : List (List Int)) (i : Nat) (a : List Int) (hi : i < F.length) : rd_L2 (F.set i a) (i : Int) = a := by
  show (F.set i a).getD i _ = a
  rw [List.getD_eq_getElem?_getD, List.getElem?_set_self hi]
  rfl
theorem dm_end {n m : Nat} (hn : m < n ∧ n ≤ 7) (hm : 1 ≤ m ∧ m ≤ 3) (costs : List Int) (hc : costs.length ≤ 1000) (F : List (List Int)) (hF : F.length = m) (hr : ∀ i : Nat, i < m → (rd_L2 F (i : Int)).length = n) (c : curP s p) :
    EvP (fun k => spec_l7DrawMutual.l0 k (m : Int) (n : Int) costs F (m : Int) s p h) okM := by
  obtain ⟨b, p1, g1, e1, c1⟩ := d_once (h := h) 15 (by omega) c
  refine evp_step (fun _ => rfl) ?_
  simp only [spec_l7DrawMutual.l0]
  refine evp_neg (by omega) (evp_bind0 e1 ?_)
  have same : ∀ (x : Int) (p h : Int), EvP (fun _ : Nat => some (costs, x, F, p, h)) okM := fun x p h => evp_some ⟨hc, by show F.length ≤ 1000; omega⟩
  by_cases hb : b = true
  · obtain ⟨x, p2, g2, e2, b2, c2⟩ := d_below (h := g1) (m : Int) (by omega) c1
    have b3 := b2.2 (by omega)
    obtain ⟨q, p3, g3, e3, _, c3⟩ := d_below (h := g2) 4 (by omega) c2
    obtain ⟨i, rfl⟩ := Int.eq_ofNat_of_zero_le b2.1
    have hi : i < m := by omega
    have hl := hr i hi
    have i1 : (0 : Int) ≤ ((i : Nat) : Int) := by omega
    have i2 : ((i : Nat) : Int) < (F.length : Int) := by omega
    have wn : wrap64 ((n : Int) - 1) = (n : Int) - 1 := wrap_id (by omega) (by omega)
    refine evp_pos hb (evp_bind0 e2 (evp_bind0 e3 ?_))
    by_cases h0 : q = 0
    · obtain ⟨y, p4, g4, e4, b4, c4⟩ := d_below (h := g3) (n : Int) (by omega) c3
      have b5 := b4.2 (by omega)
      refine evp_pos h0 (evp_pos i1 (evp_pos i2 (evp_bind0 e4 (evp_pos b4.1 (evp_pos (by show y < ((rd_L2 F ((i : Nat) : Int)).length : Int); omega) (evp_some ⟨hc, ?_⟩))))))
      show (F.set _ _).length ≤ 1000
      rw [List.length_set]; omega
    · refine evp_neg h0 ?_
      by_cases h1 : q = 1
      · refine evp_pos h1 (evp_pos i1 (evp_pos i2 (evp_pos (by show (1 : Int) ≤ ((rd_L2 F ((i : Nat) : Int)).length : Int); omega) (evp_some ⟨hc, ?_⟩))))
        show (F.set _ _).length ≤ 1000
        rw [List.length_set]; omega
      · refine evp_neg h1 ?_
        by_cases h2 : q = 2
        · obtain ⟨y, p4, g4, e4, _, c4⟩ := d_pickInt (h := g3) [0, 4, wrap64 ((m : Int) + 1)] (by simp) (by simp) c3
          exact evp_pos h2 (evp_bind0 e4 (same _ _ _))
        · refine evp_neg h2 ?_
          by_cases h3 : q = 3
          · have hs : (rd_L2 (F.set ((i : Nat) : Int).toNat ((rd_L2 F ((i : Nat) : Int)).set ((i : Nat) : Int).toNat (wrap64 (rd (rd_L2 F ((i : Nat) : Int)) ((i : Nat) : Int) + 1)))) ((i : Nat) : Int)).length = n := by
              rw [Int.toNat_natCast, rdl_set F i _ (by omega), List.length_set, hl]
            refine evp_pos h3 (evp_pos i1 (evp_pos i2 (evp_pos (by show ((i : Nat) : Int) < ((rd_L2 F ((i : Nat) : Int)).length : Int); omega) (evp_bind0 rfl (evp_pos (by rw [wn]; omega) (evp_pos (by rw [wn]; rw [hs]; omega) (evp_some ⟨hc, ?_⟩)))))))
            show ((F.set _ _).set _ _).length ≤ 1000
            rw [List.length_set, List.length_set]; omega
          · exact evp_neg h3 (same _ _ _)
  · exact evp_neg hb (same _ _ _)
theorem dm_l1 {Q : List Int × Int × List (List Int) × Int × Int → Prop} {n m : Nat} (hn : m < n ∧ n ≤ 7) (hm : 1 ≤ m ∧ m ≤ 3) (costs : List Int) (F : List (List Int)) (hF : F.length ≤ 100) (i : Nat) (hi : i < m)
    (hE : ∀ (r : List Int) (p h : Int), r.length = n → curP s p → EvP (fun k => spec_l7DrawMutual.l0 k (m : Int) (n : Int) costs (F ++ [r]) ((i + 1 : Nat) : Int) s p h) Q) :
    ∀ (d t : Nat) (ws : List Int) (p h : Int), t + d = n → ws.length = n → (∀ j, j < t → 0 ≤ ri ws j ∧ ri ws j ≤ 50) → curP s p → EvP (fun k => spec_l7DrawMutual.l1 k (m : Int) (n : Int) costs F (i : Int) ws (t : Int) s p h) Q := by
  intro d
  induction d with
  | zero =>
    intro t ws p h ht hl hw c
    obtain rfl : t = n := by omega
    have wi : wrap64 ((i : Int) + 1) = ((i + 1 : Nat) : Int) := wrap_succ hi (by omega)
    have wn : wrap64 ((t : Int) - 1) = ((t - 1 : Nat) : Int) := (wrap_id (by omega) (by omega)).trans (by omega)
    have b1 : ri (ws.set i 0) (t - 1) = ri ws (t - 1) := by
      rw [ri_set _ _ _ _ (by omega), if_neg (by omega)]
    have b2 := hw (t - 1) (by omega)
    have ws2 : wrap64 (ri (ws.set i 0) (t - 1) + 1) = ri ws (t - 1) + 1 := by rw [b1]; exact wrap_id (by omega) (by omega)
    have g : ∀ (x : Int), x = wrap64 (ri (ws.set i 0) (t - 1) + 1) → ∃ r, Ev (fun k => spec_Shares.f k 100 ((ws.set i 0).set (t - 1) x)) r ∧ r.length = t := by
      intro x hx
      rw [ws2] at hx
      refine dm_share (by omega) _ (by rw [List.length_set, List.length_set, hl]) (fun j hj => ?_) (t - 1) (by omega) ?_
      · rw [ri_set _ _ _ _ (by rw [List.length_set]; omega), ri_set _ _ _ _ (by omega)]
        have := hw j hj
        by_cases c1 : t - 1 = j
        · rw [if_pos c1]; omega
        · rw [if_neg c1]
          by_cases c2 : i = j
          · rw [if_pos c2]; omega
          · rw [if_neg c2]; omega
      · rw [ri_set _ _ _ _ (by rw [List.length_set]; omega), if_pos rfl]; omega
    obtain ⟨r, er, hr⟩ := g _ rfl
    refine evp_step (fun _ => rfl) ?_
    simp only [spec_l7DrawMutual.l1, wi, wn, Int.toNat_natCast, ri_rd]
    refine evp_neg (by omega) (evp_pos (by omega) (evp_pos (by omega) (evp_bind0 rfl (evp_pos (by omega) (evp_pos (by omega) (evp_bind0 rfl ?_))))))
    by_cases h1 : (m : Int) > 1
    · obtain ⟨b, p1, g1, e1, c1⟩ := d_once (h := h) 20 (by omega) c
      refine evp_pos h1 (evp_bind0 e1 ?_)
      by_cases hb : b = true
      · have hm2 : Int.tmod ((i + 1 : Nat) : Int) (m : Int) = (((i + 1) % m : Nat) : Int) := (Int.ofNat_tmod (i + 1) m).symm
        have hlt : (i + 1) % m < m := Nat.mod_lt _ (by omega)
        obtain ⟨q, eq, hq⟩ := dm_share (n := t) (by omega) ((List.replicate t 0).set ((i + 1) % m) 1) (by simp) (fun j hj => by
          rw [ri_set _ _ _ _ (by simp; omega)]
          by_cases c1 : (i + 1) % m = j
          · rw [if_pos c1]; omega
          · rw [if_neg c1]
            unfold ri
            rw [List.getD_eq_getElem?_getD, List.getElem?_replicate, if_pos hj]
            simp) ((i + 1) % m) (by omega) (by rw [ri_set _ _ _ _ (by simp; omega), if_pos rfl]; omega)
        rw [hm2]
        simp only [Int.toNat_natCast]
        exact evp_pos hb (evp_pos (by omega) (evp_pos (by omega) (evp_bind0 rfl (evp_neg (by omega) (evp_pos (Int.natCast_nonneg _) (evp_pos (by rw [List.length_replicate]; exact Int.ofNat_lt.2 (by omega)) (evp_bind (evp_ev eq) (fun a ha => by
          subst ha
          exact evp_pos (by omega) (hE _ _ _ hq c1)))))))))
      · exact evp_neg hb (evp_bind (evp_ev er) (fun a ha => by
          subst ha
          exact evp_pos (by omega) (hE _ _ _ hr c1)))
    · exact evp_neg h1 (evp_bind (evp_ev er) (fun a ha => by
        subst ha
        exact evp_pos (by omega) (hE _ _ _ hr c)))
  | succ d ih =>
    intro t ws p h ht hl hw c
    have wt : wrap64 ((t : Int) + 1) = ((t + 1 : Nat) : Int) := wrap_succ (n := n) (by omega) (by omega)
    refine evp_step (fun _ => rfl) ?_
    simp only [spec_l7DrawMutual.l1, wt, Int.toNat_natCast, ri_rd]
    have set3 : EvP (fun k => spec_l7DrawMutual.l1 k (m : Int) (n : Int) costs F (i : Int) (ws.set t 3) ((t + 1 : Nat) : Int) s p h) Q := ih (t + 1) _ p h (by omega) (by rw [List.length_set, hl]) (fun j hj => by
      rw [ri_set _ _ _ _ (by omega)]
      by_cases c1 : t = j
      · rw [if_pos c1]; omega
      · rw [if_neg c1]; exact hw j (by omega)) c
    refine evp_pos (by omega) (evp_pos (by omega) (evp_pos (by omega) ?_))
    by_cases h1 : ri ws t < 0
    · exact evp_pos h1 set3
    · refine evp_neg h1 ?_
      by_cases h2 : ri ws t > 50
      · exact evp_pos h2 set3
      · exact evp_neg h2 (ih (t + 1) _ p h (by omega) hl (fun j hj => by
          by_cases c1 : t = j
          · subst c1; omega
          · exact hw j (by omega)) c)
theorem dm_l0 {n m : Nat} (hn : m < n ∧ n ≤ 7) (hm : 1 ≤ m ∧ m ≤ 3) (costs : List Int) (hc : costs.length ≤ 1000) : ∀ (d i : Nat) (F : List (List Int)) (p h : Int), i + d = m → F.length = i → (∀ j : Nat, j < i → (rd_L2 F (j : Int)).length = n) → curP s p →
    EvP (fun k => spec_l7DrawMutual.l0 k (m : Int) (n : Int) costs F (i : Int) s p h) okM := by
  intro d
  induction d with
  | zero =>
    intro i F p h hi hF hr c
    obtain rfl : i = m := by omega
    exact dm_end hn hm costs hc F hF hr c
  | succ d ih =>
    intro i F p h hi hF hr c
    have hw := d_weights (s := s) n [] p h (by simp; omega) c
    refine evp_step (fun _ => rfl) ?_
    simp only [spec_l7DrawMutual.l0]
    refine evp_pos (by omega) (evp_bind (Q := fun r => r.1.length = n ∧ curP s r.2.1) ?_ (fun a ha => ?_))
    · unfold spec_l1DrawWeights.f
      exact evp_mono hw (fun r hr => ⟨by rw [hr.1]; simp, hr.2⟩)
    · refine dm_l1 hn hm costs F (by omega) i (by omega) (fun r p h hr2 c => ?_) n 0 a.1 _ _ (by omega) ha.1 (fun j hj => by omega) ha.2
      refine ih (i + 1) (F ++ [r]) p h (by omega) (by simp; omega) (fun j hj => ?_) c
      show ((F ++ [r]).getD j []).length = n
      by_cases cj : j < i
      · rw [List.getD_eq_getElem?_getD, List.getElem?_append_left (by omega)]
        have := hr j cj
        rw [← this]
        show _ = (F.getD j []).length
        rw [List.getD_eq_getElem?_getD]
      · obtain rfl : j = i := by omega
        rw [List.getD_eq_getElem?_getD, List.getElem?_append_right (by omega), hF, Nat.sub_self]
        exact hr2
end
theorem drawMut (l : List Int) (hl : l.length ≤ 1048576) : EvP (fun k => spec_DrawMutual.f k l) (fun r => r.1.length ≤ 1000 ∧ r.2.2.length ≤ 1000) := by
  unfold spec_DrawMutual.f
  refine evp_bind (d_new l hl) (fun a ha => ?_)
  obtain ⟨ha1, ha2⟩ := ha
  rw [ha1]
  refine evp_bind (Q := okM) ?_ (fun r hr => evp_some hr)
  unfold spec_l7DrawMutual.f
  obtain ⟨x, p1, g1, e1, b1, c1⟩ := d_below (h := a.2.2) 3 (by omega) ha2
  have b2 := b1.2 (by omega)
  obtain ⟨y, p2, g2, e2, b3, c2⟩ := d_below (h := g1) 4 (by omega) c1
  have b4 := b3.2 (by omega)
  obtain ⟨m, hm⟩ : ∃ m : Nat, wrap64 (1 + x) = (m : Int) := ⟨(1 + x).toNat, by rw [wrap_id (by omega) (by omega)]; omega⟩
  have hm2 : (m : Int) = 1 + x := by rw [← hm]; exact wrap_id (by omega) (by omega)
  obtain ⟨n, hn⟩ : ∃ n : Nat, wrap64 (wrap64 ((m : Int) + 1) + y) = (n : Int) := ⟨(m + 1 + y).toNat, by rw [wrap_id (x := (m : Int) + 1) (by omega) (by omega), wrap_id (by omega) (by omega)]; omega⟩
  have hn2 : (n : Int) = m + 1 + y := by rw [← hn, wrap_id (x := (m : Int) + 1) (by omega) (by omega), wrap_id (by omega) (by omega)]
  refine evp_bind0 e1 ?_
  simp only [hm]
  refine evp_bind0 e2 ?_
  simp only [hn]
  refine evp_bind (Q := fun r => r.1.length = n ∧ curP l r.2.1) ?_ (fun r hr => dm_l0 (n := n) (m := m) (by omega) (by omega) r.1 (by omega) m 0 [] _ _ (by omega) rfl (fun j hj => by omega) hr.2)
  unfold spec_l7DrawCosts.f
  exact evp_mono (d_costs n [] p2 g2 (by simp; omega) c2) (fun r hr => ⟨by rw [hr.1]; simp, hr.2⟩)
end Go.Proofs.Ytadehdkmggpehaa.PFnMutualWhole
