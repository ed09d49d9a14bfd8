import Derived.Test.YtmpknbdbichdiaaLNamesFnExactLedgerOk
set_option linter.unusedVariables false
set_option linter.unusedSimpArgs false
namespace Go.Proofs.Ytmpknbdbichdiaa.PFnExactLedgerOk
open Go Go.RowKit Go.Proofs.YtmpknbdbichdiaaW.PrintWords Go.Proofs.YtmpknbdbichdiaaW.PrintLast Go.Proofs.Ytmpknbdbichdiaa.MapWords Go.Proofs.Ytmpknbdbichdiaa.EvWords
open Classical
abbrev Acc := S222
def chn (c : List Acc) (p : Int) : Nat → Int → Int
  | 0, on => on
  | f + 1, on => if 0 ≤ on ∧ on ≠ p then chn c p f (rd_T222 c on).f1 else on
def dpt (c : List Acc) : Nat → Int → Int
  | 0, _ => 0
  | f + 1, i => if 0 ≤ (rd_T222 c i).f1 then dpt c f (rd_T222 c i).f1 + 1 else 0
def Par (c : List Acc) (i : Nat) : Prop := ∀ j : Nat, j < i → -1 ≤ (rd_T222 c j).f1 ∧ (rd_T222 c j).f1 < j
def accP (c : List Acc) (i : Nat) : Prop :=
  nameP (rd_T222 c i).f0 ∧ (1 ≤ (rd_T222 c i).f2 ∧ (rd_T222 c i).f2 ≤ 5) ∧ (∀ j : Nat, j < i → (rd_T222 c j).f0 ≠ (rd_T222 c i).f0) ∧
  ((rd_T222 c i).f1 = -1 ∨ (0 ≤ (rd_T222 c i).f1 ∧ (rd_T222 c i).f1 < i ∧ chn c (rd_T222 c i).f1 i ((i : Int) - 1) = (rd_T222 c i).f1 ∧ (rd_T222 c (rd_T222 c i).f1).f2 = (rd_T222 c i).f2 ∧ dpt c i (rd_T222 c i).f1 < 8))
def chartP (c : List Acc) : Prop := (1 ≤ c.length ∧ c.length ≤ 120) ∧ ∀ i : Nat, i < c.length → accP c i
theorem par_of {c : List Acc} {i : Nat} (h : ∀ j, j < i → accP c j) : Par c i := by
  intro j hj
  rcases (h j hj).2.2.2 with h1 | h1
  · omega
  · omega
theorem chn_bd {c : List Acc} {i : Nat} (hP : Par c i) (p : Int) : ∀ (f : Nat) (on : Int), -1 ≤ on → on < i → on < f → -1 ≤ chn c p f on ∧ chn c p f on ≤ on ∧ (chn c p f on < 0 ∨ chn c p f on = p) := by
  intro f
  induction f with
  | zero => intro on h0 h1 h2; unfold chn; exact ⟨h0, Int.le_refl _, by omega⟩
  | succ f ih =>
    intro on h0 h1 h2
    unfold chn
    by_cases hc : 0 ≤ on ∧ on ≠ p
    · rw [if_pos hc]
      obtain ⟨n, rfl⟩ := Int.eq_ofNat_of_zero_le hc.1
      obtain ⟨h3, h4⟩ := hP n (by omega)
      obtain ⟨h5, h6, h7⟩ := ih (rd_T222 c n).f1 h3 (by omega) (by omega)
      exact ⟨h5, by omega, h7⟩
    · rw [if_neg hc]
      refine ⟨h0, Int.le_refl _, ?_⟩
      by_cases h : on < 0
      · exact .inl h
      · exact .inr (by
          by_cases h' : on = p
          · exact h'
          · exact absurd ⟨by omega, h'⟩ hc)
theorem dpt_any {c : List Acc} {i : Nat} (hP : Par c i) : ∀ (f g : Nat) (j : Nat), j < i → j < f → j < g → dpt c f j = dpt c g j := by
  intro f
  induction f with
  | zero => intro g j _ h; omega
  | succ f ih =>
    intro g j hj h1 h2
    obtain ⟨g, rfl⟩ : ∃ m, g = m + 1 := ⟨g - 1, by omega⟩
    unfold dpt
    by_cases hc : 0 ≤ (rd_T222 c j).f1
    · rw [if_pos hc, if_pos hc]
      obtain ⟨n, hn⟩ := Int.eq_ofNat_of_zero_le hc
      have := (hP j hj).2
      rw [hn]
      rw [ih g n (by omega) (by omega) (by omega)]
    · rw [if_neg hc, if_neg hc]
theorem dpt_bd (c : List Acc) : ∀ (f : Nat) (j : Int), 0 ≤ dpt c f j ∧ dpt c f j ≤ f := by
  intro f
  induction f with
  | zero => intro j; simp [dpt]
  | succ f ih =>
    intro j
    unfold dpt
    split
    · have := ih (rd_T222 c j).f1; omega
    · omega
def dep (c : List Acc) (i : Nat) : Int := dpt c (i + 1) i
theorem dep_le {c : List Acc} {i : Nat} (hP : Par c i) (h : accP c i) : 0 ≤ dep c i ∧ dep c i ≤ 8 := by
  unfold dep dpt
  rcases h.2.2.2 with h1 | ⟨h1, h2, h3, h4, h5⟩
  · rw [if_neg (by omega)]; omega
  · rw [if_pos h1]
    have := (dpt_bd c i (rd_T222 c i).f1).1
    omega
theorem dep_up {c : List Acc} {i : Nat} (hP : Par c i) {p : Nat} (hp : (rd_T222 c i).f1 = p) (hlt : p < i) : dep c i = dep c p + 1 := by
  unfold dep
  show dpt c (i + 1) i = _
  rw [dpt, if_pos (by omega), hp, dpt_any hP i (p + 1) p hlt hlt (by omega)]
theorem dep_top {c : List Acc} {i : Nat} (hp : (rd_T222 c i).f1 = -1) : dep c i = 0 := by
  unfold dep
  rw [dpt, if_neg (by omega)]
def mpc (c : List Acc) : Nat → List (ByteArray × Int)
  | 0 => []
  | i + 1 => ((rd_T222 c i).f0, (i : Int)) :: mpc c i
theorem mpc_len (c : List Acc) : ∀ i, (mpc c i).length = i
  | 0 => rfl
  | i + 1 => by simp [mpc, mpc_len c i]
theorem mpc_has (c : List Acc) (s : ByteArray) : ∀ i, mhas (mpc c i) s = true ↔ ∃ j : Nat, j < i ∧ (rd_T222 c j).f0 = s
  | 0 => by simp [mpc, mhas]
  | i + 1 => by
    simp only [mpc, mhas]
    split
    · rename_i h
      exact ⟨fun _ => ⟨i, by omega, h⟩, fun _ => rfl⟩
    · rename_i h
      rw [mpc_has c s i]
      exact ⟨fun ⟨j, hj, e⟩ => ⟨j, by omega, e⟩, fun ⟨j, hj, e⟩ => ⟨j, by
        by_cases hji : j = i
        · subst hji; exact absurd e h
        · omega, e⟩⟩
def dls (c : List Acc) (i : Nat) : List Int := (List.range c.length).map fun j => if j < i then dep c j else 0
theorem dls_len (c : List Acc) (i : Nat) : (dls c i).length = c.length := by simp [dls]
theorem dls_zero (c : List Acc) : dls c 0 = List.replicate c.length 0 := by
  unfold dls
  apply List.ext_getElem (by simp)
  intro j h1 h2
  simp
theorem dls_rd (c : List Acc) (i p : Nat) (hp : p < c.length) (h : p < i) : rd (dls c i) (p : Int) = dep c p := by
  simp [rd, dls, List.getD_eq_getElem?_getD, List.getElem?_map, List.getElem?_range hp, h]
theorem dls_set (c : List Acc) (i : Nat) (hi : i < c.length) : (dls c i).set i (dep c i) = dls c (i + 1) := by
  apply List.ext_getElem (by simp [dls])
  intro j h1 h2
  simp only [List.getElem_set, dls, List.getElem_map, List.getElem_range]
  by_cases h : i = j
  · subst h; simp
  · rw [if_neg h]
    by_cases hj : j < i
    · rw [if_pos hj, if_pos (by omega)]
    · rw [if_neg hj, if_neg (by omega)]
theorem dls_top (c : List Acc) (i : Nat) (hd : dep c i = 0) : dls c i = dls c (i + 1) := by
  unfold dls
  apply List.map_congr_left
  intro j _
  by_cases h : j < i
  · rw [if_pos h, if_pos (by omega)]
  · by_cases hj : j = i
    · subst hj; simp [hd]
    · rw [if_neg h, if_neg (by omega)]
theorem kindOk_eq (a : Int) : impl_kindOk.f a = some (decide (1 ≤ a ∧ a ≤ 5)) := by
  unfold impl_kindOk.f
  rw [between_eq]; rfl
theorem impl_up (c : List Acc) (hlen : c.length ≤ 120) (i : Nat) (hi : i < c.length) (hP : Par c i) (m : List (ByteArray × Int)) (d : List Int) (s : ByteArray) (p q : Int) (r : List Int × Bool) :
    ∀ (f : Nat) (on : Int), -1 ≤ on → on < i → Ev (fun k => impl_depths.l1 k c m d i (chn c p f on) c c.length i s p q) r → Ev (fun k => impl_depths.l1 k c m d i on c c.length i s p q) r := by
  intro f
  induction f with
  | zero => intro on _ _ h; exact h
  | succ f ih =>
    intro on h0 h1 h
    unfold chn at h
    by_cases hc : 0 ≤ on ∧ on ≠ p
    · rw [if_pos hc] at h
      obtain ⟨n, rfl⟩ := Int.eq_ofNat_of_zero_le hc.1
      obtain ⟨h3, h4⟩ := hP n (by omega)
      refine Ev.step (fun _ => rfl) ?_
      exact ev_pos (by omega) (ev_neg hc.2 (ev_pos (by omega) (ev_pos (by omega) (ih _ h3 (by omega) h))))
    · rw [if_neg hc] at h
      exact h
theorem spec_up (c : List Acc) (hlen : c.length ≤ 120) (i : Nat) (hi : i < c.length) (hP : Par c i) (s : ByteArray) (p q : Int) (r : Bool) :
    ∀ (f : Nat) (on : Int), -1 ≤ on → on < i → Ev (fun k => spec_ChartOk.l2 k c i (chn c p f on) s p q) r → Ev (fun k => spec_ChartOk.l2 k c i on s p q) r := by
  intro f
  induction f with
  | zero => intro on _ _ h; exact h
  | succ f ih =>
    intro on h0 h1 h
    unfold chn at h
    by_cases hc : 0 ≤ on ∧ on ≠ p
    · rw [if_pos hc] at h
      obtain ⟨n, rfl⟩ := Int.eq_ofNat_of_zero_le hc.1
      obtain ⟨h3, h4⟩ := hP n (by omega)
      refine Ev.step (fun _ => rfl) ?_
      exact ev_pos (by omega) (ev_neg hc.2 (ev_pos (by omega) (ev_pos (by omega) (ih _ h3 (by omega) h))))
    · rw [if_neg hc] at h
      exact h
theorem spec_deep (c : List Acc) (hlen : c.length ≤ 120) (i : Nat) (hi : i ≤ c.length) (hP : Par c i) : ∀ (j : Nat) (n : Int), j < i → 0 ≤ n → n + j ≤ 200 → Ev (fun k => spec_l4Deep.l0 k c j n) (n + dep c j) := by
  intro j
  induction j using Nat.strongRecOn with
  | _ j ih =>
    intro n hj h0 h1
    obtain ⟨h3, h4⟩ := hP j hj
    refine Ev.step (fun _ => rfl) ?_
    refine ev_pos (by omega) (ev_pos (by omega) ?_)
    by_cases hc : (rd_T222 c j).f1 ≥ 0
    · refine ev_pos hc ?_
      obtain ⟨p, hp⟩ := Int.eq_ofNat_of_zero_le hc
      have hw : wrap64 (n + 1) = n + 1 := wrap_id (by omega) (by omega)
      show Ev (fun k => spec_l4Deep.l0 k c (rd_T222 c j).f1 (wrap64 (n + 1))) _
      rw [hp, hw]
      refine ev_eq (ih p (by omega) (n + 1) (by omega) (by omega) (by omega)) ?_
      have hP' : Par c j := fun a ha => hP a (by omega)
      rw [dep_up hP' hp (by omega)]; omega
    · refine ev_neg hc (ev_eq (ev_some _) ?_)
      rw [dep_top (by omega)]; omega
theorem impl_acc (c : List Acc) (hlen : c.length ≤ 120) (i : Nat) (hi : i < c.length) (hs : (rd_T222 c i).f0.size ≤ 9223372036854775807) (hpre : ∀ j, j < i → accP c j) :
    (accP c i → ∀ r, Ev (fun k => impl_depths.l0 k c (mpc c (i + 1)) (dls c (i + 1)) c c.length ((i + 1 : Nat) : Int)) r → Ev (fun k => impl_depths.l0 k c (mpc c i) (dls c i) c c.length i) r) ∧
    (¬ accP c i → Ev (fun k => impl_depths.l0 k c (mpc c i) (dls c i) c c.length i) ([], false)) := by
  have hP := par_of hpre
  have hw : wrap64 ((i : Int) + 1) = ((i + 1 : Nat) : Int) := wrap_succ hi (by omega)
  have hw1 : wrap64 ((i : Int) - 1) = (i : Int) - 1 := wrap_id (by omega) (by omega)
  have join : ∀ (b : Bool) (r : List Int × Bool), b = decide (¬ (nameP (rd_T222 c i).f0 ∧ (1 ≤ (rd_T222 c i).f2 ∧ (rd_T222 c i).f2 ≤ 5) ∧ ∀ j : Nat, j < i → (rd_T222 c j).f0 ≠ (rd_T222 c i).f0)) →
      (accP c i → Ev (fun k => impl_depths.l0 k c (mpc c (i + 1)) (dls c (i + 1)) c c.length ((i + 1 : Nat) : Int)) r) → (¬ accP c i → r = ([], false)) →
      Ev (fun k => impl_depths.j2 k c (mpc c i) (dls c i) i c c.length i b (rd_T222 c i).f0 (rd_T222 c i).f1 (rd_T222 c i).f2) r := by
    intro b r hb hr hbad
    refine Ev.step (fun _ => rfl) ?_
    by_cases hq : nameP (rd_T222 c i).f0 ∧ (1 ≤ (rd_T222 c i).f2 ∧ (rd_T222 c i).f2 ≤ 5) ∧ ∀ j : Nat, j < i → (rd_T222 c j).f0 ≠ (rd_T222 c i).f0
    · have hbf : b = false := by rw [hb]; exact decide_eq_false (fun g => g hq)
      refine ev_neg (by simp [hbf]) (ev_pos hs (ev_pos (by omega) (ev_pos (by omega) (ev_pos (by rw [mpc_len]; omega) ?_))))
      refine ev_bind0 (a := mpc c (i + 1)) rfl ?_
      by_cases hm1 : (rd_T222 c i).f1 = -1
      · have ha : accP c i := ⟨hq.1, hq.2.1, hq.2.2, .inl hm1⟩
        refine ev_pos hm1 ?_
        show Ev (fun k => impl_depths.l0 k c (mpc c (i + 1)) (dls c i) c c.length (wrap64 ((i : Int) + 1))) r
        rw [hw, dls_top c i (dep_top hm1)]
        exact hr ha
      · refine ev_neg hm1 ?_
        show Ev (fun k => impl_depths.l1 k c (mpc c (i + 1)) (dls c i) i (wrap64 ((i : Int) - 1)) c c.length i (rd_T222 c i).f0 (rd_T222 c i).f1 (rd_T222 c i).f2) r
        rw [hw1]
        refine impl_up c hlen i hi hP _ _ _ _ _ _ i _ (by omega) (by omega) ?_
        obtain ⟨e0, e1, e2⟩ := chn_bd hP (rd_T222 c i).f1 i ((i : Int) - 1) (by omega) (by omega) (by omega)
        generalize he : chn c (rd_T222 c i).f1 i ((i : Int) - 1) = e at *
        refine Ev.step (fun _ => rfl) ?_
        by_cases hneg : e < 0
        · have hna : ¬ accP c i := by
            intro ha
            rcases ha.2.2.2 with h1 | ⟨h1, h2, h3, _⟩
            · exact hm1 h1
            · rw [he] at h3; omega
          rw [hbad hna]
          exact ev_neg (by omega) (ev_pos hneg (ev_some _))
        · have hep : e = (rd_T222 c i).f1 := by omega
          obtain ⟨p, hp⟩ := Int.eq_ofNat_of_zero_le (show 0 ≤ e by omega)
          refine ev_pos (by omega) (ev_pos hep (ev_neg hneg (ev_pos (by omega) (ev_pos (by omega) ?_))))
          have hdp : dpt c i p = dep c p := dpt_any hP i (p + 1) p (by omega) (by omega) (by omega)
          by_cases hk : (rd_T222 c e).f2 = (rd_T222 c i).f2
          · refine ev_pos hk (ev_pos (by rw [dls_len]; omega) ?_)
            have hrd : rd (dls c i) e = dep c p := by rw [hp]; exact dls_rd c i p (by omega) (by omega)
            have hP' : Par c p := fun a ha => hP a (by omega)
            have hdb := dep_le hP' (hpre p (by omega))
            by_cases h8 : dep c p ≥ 8
            · have hna : ¬ accP c i := by
                intro ha
                rcases ha.2.2.2 with h1 | ⟨h1, h2, h3, h4, h5⟩
                · exact hm1 h1
                · rw [← hep, hp, hdp] at h5; omega
              rw [hbad hna]
              exact ev_pos (by rw [hrd]; exact h8) (ev_some _)
            · have ha : accP c i := ⟨hq.1, hq.2.1, hq.2.2, .inr ⟨by omega, by omega, by rw [he, hep], by rw [← hep]; exact hk, by rw [← hep, hp, hdp]; omega⟩⟩
              refine ev_neg (by rw [hrd]; exact h8) (ev_pos (by omega) (ev_pos (by rw [dls_len]; omega) ?_))
              have hset : (dls c i).set (i : Int).toNat (wrap64 (rd (dls c i) e + 1)) = dls c (i + 1) := by
                rw [hrd, wrap_id (by omega) (by omega), Int.toNat_natCast, ← dls_set c i hi, dep_up hP (by rw [← hep, hp]) (by omega)]
              show Ev (fun k => impl_depths.l0 k c (mpc c (i + 1)) ((dls c i).set (i : Int).toNat (wrap64 (rd (dls c i) e + 1))) c c.length (wrap64 ((i : Int) + 1))) r
              rw [hset, hw]
              exact hr ha
          · have hna : ¬ accP c i := by
              intro ha
              rcases ha.2.2.2 with h1 | ⟨h1, h2, h3, h4, h5⟩
              · exact hm1 h1
              · rw [← hep] at h4; exact hk h4
            rw [hbad hna]
            exact ev_neg hk (ev_some _)
    · have hbt : b = true := by rw [hb]; simp only [decide_eq_true_eq]; exact hq
      rw [hbad (fun ha => hq ⟨ha.1, ha.2.1, ha.2.2.1⟩)]
      exact ev_pos hbt (ev_some _)
  have whole : ∀ r : List Int × Bool, (accP c i → Ev (fun k => impl_depths.l0 k c (mpc c (i + 1)) (dls c (i + 1)) c c.length ((i + 1 : Nat) : Int)) r) → (¬ accP c i → r = ([], false)) →
      Ev (fun k => impl_depths.l0 k c (mpc c i) (dls c i) c c.length i) r := by
    intro r hr hbad
    refine Ev.step (fun _ => rfl) ?_
    refine ev_pos (by omega) (ev_pos (by omega) (ev_pos (by omega) (ev_pos hs ?_)))
    by_cases hh : mhas (mpc c i) (rd_T222 c i).f0 = true
    · refine ev_pos hh (join true r ?_ hr hbad)
      symm; rw [decide_eq_true_eq]
      rintro ⟨_, _, h3⟩
      obtain ⟨j, hj, e⟩ := (mpc_has c _ i).1 hh
      exact h3 j hj e
    · have hn : ∀ j : Nat, j < i → (rd_T222 c j).f0 ≠ (rd_T222 c i).f0 := fun j hj e => hh ((mpc_has c _ i).2 ⟨j, hj, e⟩)
      refine ev_neg hh (ev_bind (implName _) ?_)
      by_cases hnm : nameP (rd_T222 c i).f0
      · refine ev_pos (by simpa using hnm) (ev_bind0 (kindOk_eq _) (join _ r ?_ hr hbad))
        by_cases hk : 1 ≤ (rd_T222 c i).f2 ∧ (rd_T222 c i).f2 ≤ 5
        · simp only [hk, hnm]; simp; exact hn
        · simp only [hk]; simp
      · refine ev_neg (by simpa using hnm) (join true r ?_ hr hbad)
        symm; rw [decide_eq_true_eq]
        exact fun h => hnm h.1
  exact ⟨fun ha r h => whole r (fun _ => h) (fun hn => absurd ha hn), fun hn => whole _ (fun ha => absurd ha hn) (fun _ => rfl)⟩
theorem implDepths (c : List Acc) (hs : ∀ i : Nat, i < c.length → (rd_T222 c i).f0.size ≤ 9223372036854775807) :
    Ev (fun k => impl_depths.f k c) (if chartP c then (dls c c.length, true) else ([], false)) := by
  have hj : ∀ b : Bool, b = decide (¬ (1 ≤ c.length ∧ c.length ≤ 120)) → Ev (fun k => impl_depths.j0 k c b) (if chartP c then (dls c c.length, true) else ([], false)) := by
    intro b hb
    refine Ev.step (fun _ => rfl) ?_
    by_cases hc : 1 ≤ c.length ∧ c.length ≤ 120
    · have hbf : b = false := by rw [hb]; simp [hc]
      refine ev_neg (by simp [hbf]) (ev_pos (by omega) (ev_pos (by simp; omega) ?_))
      have hz : List.replicate ((c.length : Int)).toNat (0 : Int) = dls c 0 := by rw [dls_zero]; simp
      show Ev (fun k => impl_depths.l0 k c (mpc c 0) (List.replicate ((c.length : Int)).toNat 0) c c.length 0) _
      rw [hz]
      obtain ⟨g1, g2⟩ := ev_loop (F := fun k i => impl_depths.l0 k c (mpc c i.toNat) (dls c i.toNat) c c.length i) (n := c.length) (p := fun i => accP c i) (R := (dls c c.length, true)) (bad := (([] : List Int), false))
        (fun _ => by
          refine Ev.step (fun _ => rfl) ?_
          refine ev_neg (by omega) (ev_eq (ev_some _) ?_)
          simp)
        (fun i r hi hpre hp h => (impl_acc c hc.2 i hi (hs i hi) hpre).1 hp r (by simpa using h))
        (fun i hi hpre hp => (impl_acc c hc.2 i hi (hs i hi) hpre).2 hp)
      by_cases h : ∀ i : Nat, i < c.length → accP c i
      · rw [if_pos ⟨hc, h⟩]; exact g1 h
      · rw [if_neg (fun g => h g.2)]; exact g2 h
    · have hbt : b = true := by rw [hb]; simp only [decide_eq_true_eq]; exact hc
      rw [if_neg (fun g => hc g.1)]
      exact ev_pos hbt (ev_some _)
  unfold impl_depths.f
  by_cases h1 : (c.length : Int) < 1
  · refine ev_pos h1 (hj true ?_)
    symm; rw [decide_eq_true_eq]; omega
  · refine ev_neg h1 (hj _ ?_)
    rw [decide_eq_decide]; omega
theorem implChart (c : List Acc) (hs : ∀ i : Nat, i < c.length → (rd_T222 c i).f0.size ≤ 9223372036854775807) : Ev (fun k => impl_ChartOk.f k c) (decide (chartP c)) := by
  unfold impl_ChartOk.f
  refine ev_bind (implDepths c hs) (ev_eq (ev_some _) ?_)
  by_cases h : chartP c
  · rw [if_pos h, decide_eq_true h]
  · rw [if_neg h, decide_eq_false h]
theorem spec_acc (c : List Acc) (hlen : c.length ≤ 120) (i : Nat) (hi : i < c.length) (hs : (rd_T222 c i).f0.size ≤ 9223372036854775807) (hpre : ∀ j, j < i → accP c j) :
    ∀ r : Bool, (accP c i → Ev (fun k => spec_ChartOk.l0 k c ((i + 1 : Nat) : Int)) r) → (¬ accP c i → r = false) → Ev (fun k => spec_ChartOk.l0 k c i) r := by
  intro r hr hbad
  have hP := par_of hpre
  have hw : wrap64 ((i : Int) + 1) = ((i + 1 : Nat) : Int) := wrap_succ hi (by omega)
  have hw1 : wrap64 ((i : Int) - 1) = (i : Int) - 1 := wrap_id (by omega) (by omega)
  have bad : ¬ accP c i → Ev (fun _ => some false) r := fun h => by rw [hbad h]; exact ev_some _
  have join : ∀ b : Bool, b = decide (¬ (nameP (rd_T222 c i).f0 ∧ (1 ≤ (rd_T222 c i).f2 ∧ (rd_T222 c i).f2 ≤ 5) ∧ (-1 ≤ (rd_T222 c i).f1 ∧ (rd_T222 c i).f1 ≤ (i : Int) - 1))) →
      Ev (fun k => spec_ChartOk.j1 k c i b (rd_T222 c i).f0 (rd_T222 c i).f1 (rd_T222 c i).f2) r := by
    intro b hb
    refine Ev.step (fun _ => rfl) ?_
    by_cases hq : nameP (rd_T222 c i).f0 ∧ (1 ≤ (rd_T222 c i).f2 ∧ (rd_T222 c i).f2 ≤ 5) ∧ (-1 ≤ (rd_T222 c i).f1 ∧ (rd_T222 c i).f1 ≤ (i : Int) - 1)
    · have hbf : b = false := by rw [hb]; exact decide_eq_false (fun g => g hq)
      refine ev_neg (by simp [hbf]) ?_
      obtain ⟨g1, g2⟩ := ev_loop (F := fun k x => spec_ChartOk.l1 k c i x (rd_T222 c i).f0 (rd_T222 c i).f1 (rd_T222 c i).f2) (n := i) (p := fun j => (rd_T222 c j).f0 ≠ (rd_T222 c i).f0) (R := r) (bad := false)
        (fun hd => by
          refine Ev.step (fun _ => rfl) ?_
          refine ev_neg (by omega) ?_
          by_cases hm1 : (rd_T222 c i).f1 < 0
          · refine ev_pos hm1 ?_
            rw [hw]
            exact hr ⟨hq.1, hq.2.1, hd, .inl (by omega)⟩
          · refine ev_neg hm1 ?_
            rw [hw1]
            refine spec_up c hlen i hi hP _ _ _ _ i _ (by omega) (by omega) ?_
            obtain ⟨e0, e1, e2⟩ := chn_bd hP (rd_T222 c i).f1 i ((i : Int) - 1) (by omega) (by omega) (by omega)
            generalize he : chn c (rd_T222 c i).f1 i ((i : Int) - 1) = e at *
            refine Ev.step (fun _ => rfl) ?_
            by_cases hneg : e < 0
            · exact ev_neg (by omega) (ev_pos hneg (bad (fun ha => by
                rcases ha.2.2.2 with h1 | ⟨h1, h2, h3, _⟩
                · omega
                · rw [he] at h3; omega)))
            · have hep : e = (rd_T222 c i).f1 := by omega
              obtain ⟨p, hp⟩ := Int.eq_ofNat_of_zero_le (show 0 ≤ e by omega)
              refine ev_pos (by omega) (ev_pos hep (ev_neg hneg (ev_pos (by omega) (ev_pos (by omega) ?_))))
              have hdp : dpt c i p = dep c p := dpt_any hP i (p + 1) p (by omega) (by omega) (by omega)
              have hP' : Par c p := fun a ha => hP a (by omega)
              have hdb := dep_le hP' (hpre p (by omega))
              have hPi : Par c (i + 1) := fun a ha => by
                by_cases hai : a = i
                · subst hai; omega
                · exact hP a (by omega)
              by_cases hk : (rd_T222 c e).f2 = (rd_T222 c i).f2
              · refine ev_pos hk (ev_bind (spec_deep c hlen (i + 1) (by omega) hPi i 0 (by omega) (by omega) (by omega)) ?_)
                have hdi : dep c i = dep c p + 1 := dep_up hP (by rw [← hep, hp]) (by omega)
                by_cases h8 : (0 : Int) + dep c i > 8
                · exact ev_pos h8 (bad (fun ha => by
                    rcases ha.2.2.2 with h1 | ⟨h1, h2, h3, h4, h5⟩
                    · omega
                    · rw [← hep, hp, hdp] at h5; omega))
                · refine ev_neg h8 ?_
                  rw [hw]
                  exact hr ⟨hq.1, hq.2.1, hd, .inr ⟨by omega, by omega, by rw [he, hep], by rw [← hep]; exact hk, by rw [← hep, hp, hdp]; omega⟩⟩
              · exact ev_neg hk (bad (fun ha => by
                  rcases ha.2.2.2 with h1 | ⟨h1, h2, h3, h4, h5⟩
                  · omega
                  · rw [← hep] at h4; exact hk h4)))
        (fun j q hj _ hp h => by
          refine Ev.step (fun _ => rfl) ?_
          refine ev_pos (by omega) (ev_pos (by omega) (ev_pos (by omega) (ev_neg (by rw [str_iff]; exact hp) ?_)))
          rw [wrap_succ hj (by omega)]
          exact h)
        (fun j hj _ hp => by
          refine Ev.step (fun _ => rfl) ?_
          exact ev_pos (by omega) (ev_pos (by omega) (ev_pos (by omega) (ev_pos (by rw [str_iff]; exact not_not.1 hp) (ev_some _)))))
      by_cases hd : ∀ j : Nat, j < i → (rd_T222 c j).f0 ≠ (rd_T222 c i).f0
      · exact g1 hd
      · have := g2 hd
        rw [hbad (fun ha => hd ha.2.2.1)]
        exact this
    · have hbt : b = true := by rw [hb]; simp only [decide_eq_true_eq]; exact hq
      exact ev_pos hbt (bad (fun ha => hq ⟨ha.1, ha.2.1, by rcases ha.2.2.2 with h1 | h1 <;> omega⟩))
  refine Ev.step (fun _ => rfl) ?_
  refine ev_pos (by omega) (ev_pos (by omega) (ev_bind (specName _ hs) ?_))
  by_cases hnm : nameP (rd_T222 c i).f0
  · refine ev_pos (by simpa using hnm) (ev_bind0 (l1In_eq _ _ _) ?_)
    by_cases hk : 1 ≤ (rd_T222 c i).f2 ∧ (rd_T222 c i).f2 ≤ 5
    · refine ev_pos (by simpa using hk) (ev_bind0 (l1In_eq _ _ _) (join _ ?_))
      rw [hw1]
      by_cases h3 : -1 ≤ (rd_T222 c i).f1 ∧ (rd_T222 c i).f1 ≤ (i : Int) - 1
      · rw [decide_eq_true h3]; symm; rw [Bool.not_true, decide_eq_false_iff_not]; exact fun g => g ⟨hnm, hk, h3⟩
      · rw [decide_eq_false h3]; symm; rw [Bool.not_false, decide_eq_true_eq]; exact fun g => h3 g.2.2
    · refine ev_neg (by simpa using hk) (join true ?_)
      symm; rw [decide_eq_true_eq]
      exact fun h => hk h.2.1
  · refine ev_neg (by simpa using hnm) (join true ?_)
    symm; rw [decide_eq_true_eq]
    exact fun h => hnm h.1
theorem specChart (c : List Acc) (hs : ∀ i : Nat, i < c.length → (rd_T222 c i).f0.size ≤ 9223372036854775807) : Ev (fun k => spec_ChartOk.f k c) (decide (chartP c)) := by
  unfold spec_ChartOk.f
  refine ev_bind0 (l1In_eq _ _ _) ?_
  by_cases hc : 1 ≤ c.length ∧ c.length ≤ 120
  · refine ev_pos (by rw [decide_eq_true_eq]; omega) ?_
    refine ev_eq (ev_loopB (F := fun k x => spec_ChartOk.l0 k c x) (n := c.length) (p := fun i => accP c i) ?_ ?_ ?_) ?_
    · intro _
      refine Ev.step (fun _ => rfl) ?_
      exact ev_neg (by omega) (ev_some _)
    · intro i r hi hpre hp h
      exact spec_acc c hc.2 i hi (hs i hi) hpre r (fun _ => h) (fun hn => absurd hp hn)
    · intro i hi hpre hp
      exact spec_acc c hc.2 i hi (hs i hi) hpre false (fun ha => absurd ha hp) (fun _ => rfl)
    · rw [decide_eq_decide]
      exact ⟨fun h => ⟨hc, h⟩, fun h => h.2⟩
  · refine ev_neg (by rw [decide_eq_true_eq]; omega) (ev_eq (ev_some _) ?_)
    symm; rw [decide_eq_false_iff_not]
    exact fun h => hc h.1
def leafP (c : List Acc) (at_ : Int) : Prop := (0 ≤ at_ ∧ at_ < c.length) ∧ ∀ i : Nat, i < c.length → (rd_T222 c i).f1 ≠ at_
theorem chn_hit {c : List Acc} {i : Nat} (hP : Par c i) (p : Int) (hp : 0 ≤ p) : ∀ (f : Nat) (on : Int), -1 ≤ on → on < i → on ≠ p → chn c p f on = p → ∃ j : Nat, (j : Int) ≤ on ∧ (rd_T222 c j).f1 = p := by
  intro f
  induction f with
  | zero => intro on _ _ h1 h2; exact absurd h2 h1
  | succ f ih =>
    intro on h0 h1 h2 h3
    unfold chn at h3
    by_cases hc : 0 ≤ on ∧ on ≠ p
    · rw [if_pos hc] at h3
      obtain ⟨n, rfl⟩ := Int.eq_ofNat_of_zero_le hc.1
      obtain ⟨h4, h5⟩ := hP n (by omega)
      by_cases he : (rd_T222 c n).f1 = p
      · exact ⟨n, by omega, he⟩
      · obtain ⟨j, hj, e⟩ := ih _ h4 (by omega) he h3
        exact ⟨j, by omega, e⟩
    · rw [if_neg hc] at h3
      exact absurd h3 h2
theorem first_part {c : List Acc} (h : chartP c) (a : Nat) : ∀ i : Nat, i < c.length → (rd_T222 c i).f1 = a → a + 1 < c.length ∧ (rd_T222 c ((a + 1 : Nat) : Int)).f1 = a := by
  intro i
  induction i using Nat.strongRecOn with
  | _ i ih =>
    intro hi he
    have hP : Par c i := par_of (fun j hj => h.2 j (by omega))
    rcases (h.2 i hi).2.2.2 with h1 | ⟨h1, h2, h3, _⟩
    · omega
    · rw [he] at h2 h3
      by_cases hia : i = a + 1
      · subst hia; exact ⟨hi, he⟩
      · obtain ⟨j, hj, e⟩ := chn_hit hP (a : Int) (by omega) i ((i : Int) - 1) (by omega) (by omega) (by omega) h3
        exact ih j (by omega) (by omega) e
theorem implLeaf {c : List Acc} (h : chartP c) (a : Int) (hw : -9223372036854775808 ≤ a ∧ a ≤ 9223372036854775807) : impl_leafAt.f c a = some (decide (leafP c a)) := by
  unfold impl_leafAt.f
  have hl := h.1
  by_cases h1 : a ≥ 0
  · rw [if_pos h1]
    by_cases h2 : a < (c.length : Int)
    · rw [if_pos h2, wrap_id (by omega) (by omega)]
      obtain ⟨n, rfl⟩ := Int.eq_ofNat_of_zero_le h1
      by_cases h3 : (n : Int) + 1 = (c.length : Int)
      · rw [if_pos h3]
        congr 1; symm; rw [decide_eq_true_eq]
        exact ⟨⟨h1, h2⟩, fun i hi he => by have := (first_part h n i hi he).1; omega⟩
      · rw [if_neg h3, if_pos (by omega), if_pos (by omega)]
        congr 1
        by_cases h4 : (rd_T222 c ((n : Int) + 1)).f1 = n
        · have e1 : decide (leafP c n) = false := by
            rw [decide_eq_false_iff_not]
            exact fun hf => hf.2 (n + 1) (by omega) (by simpa using h4)
          rw [e1]
          simpa using h4
        · have e1 : decide (leafP c n) = true := by
            rw [decide_eq_true_eq]
            exact ⟨⟨h1, h2⟩, fun i hi he => h4 (by simpa using (first_part h n i hi he).2)⟩
          rw [e1]
          simpa using h4
    · rw [if_neg h2]; congr 1; symm; rw [decide_eq_false_iff_not]; exact fun hf => h2 hf.1.2
  · rw [if_neg h1]; congr 1; symm; rw [decide_eq_false_iff_not]; exact fun hf => h1 hf.1.1
theorem specLeaf {c : List Acc} (hs : ∀ i : Nat, i < c.length → (rd_T222 c i).f0.size ≤ 9223372036854775807) (h : chartP c) (a : Int) : Ev (fun k => spec_Leaf.f k c a) (decide (leafP c a)) := by
  have hl := h.1
  unfold spec_Leaf.f
  refine ev_bind (specChart c hs) (ev_pos (by simpa using h) (ev_bind0 (l1In_eq _ _ _) ?_))
  rw [wrap_id (by omega) (by omega)]
  refine Ev.step (fun _ => rfl) ?_
  by_cases h1 : 0 ≤ a ∧ a ≤ (c.length : Int) - 1
  · refine ev_neg (by simp [h1]) ?_
    refine ev_eq (ev_loopB (F := fun k x => spec_Leaf.l0 k c a x) (n := c.length) (p := fun i => (rd_T222 c i).f1 ≠ a) ?_ ?_ ?_) ?_
    · intro _
      refine Ev.step (fun _ => rfl) ?_
      exact ev_neg (by omega) (ev_some _)
    · intro i r hi _ hp hr
      refine Ev.step (fun _ => rfl) ?_
      refine ev_pos (by omega) (ev_pos (by omega) (ev_neg hp ?_))
      rw [wrap_succ hi (by omega)]
      exact hr
    · intro i hi _ hp
      refine Ev.step (fun _ => rfl) ?_
      exact ev_pos (by omega) (ev_pos (by omega) (ev_pos (not_not.1 hp) (ev_some _)))
    · rw [decide_eq_decide]
      exact ⟨fun g => ⟨by omega, g⟩, fun g => g.2⟩
  · refine ev_pos (by rw [decide_eq_false h1]; rfl) (ev_eq (ev_some _) ?_)
    symm; rw [decide_eq_false_iff_not]
    exact fun g => h1 (by have := g.1; omega)
end Go.Proofs.Ytmpknbdbichdiaa.PFnExactLedgerOk
