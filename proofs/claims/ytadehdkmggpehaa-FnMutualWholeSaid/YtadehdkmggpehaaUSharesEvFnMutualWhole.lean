import Derived.Test.YtadehdkmggpehaaUSharesFnMutualWhole
set_option linter.unusedVariables false
set_option linter.unusedSimpArgs false
namespace Go.Proofs.Ytadehdkmggpehaa.PFnMutualWhole
open Go Go.RowKit Go.Proofs.YtadehdkmggpehaaW.PrintWords Go.Proofs.YtadehdkmggpehaaW.PrintLast Go.Proofs.Ytadehdkmggpehaa.MapWords Go.Proofs.Ytadehdkmggpehaa.IterWords Go.Proofs.Ytadehdkmggpehaa.EvWords
open Classical
theorem ctab_succ (f : Nat → Int) (n : Nat) : ctab f (n + 1) = ctab f n ++ [(⟨(n : Int), f n⟩ : Cut)] := by
  unfold ctab
  rw [List.range_succ, List.map_append]
  rfl
theorem mem_ctab {f : Nat → Int} {n : Nat} {c : Cut} : c ∈ ctab f n ↔ ∃ i : Nat, i < n ∧ c = (⟨(i : Int), f i⟩ : Cut) := by
  unfold ctab
  simp only [List.mem_map, List.mem_range]
  exact ⟨fun ⟨i, h, e⟩ => ⟨i, h, e.symm⟩, fun ⟨i, h, e⟩ => ⟨i, h, e.symm⟩⟩
theorem ctab_up (f : Nat → Int) (n : Nat) : (ctab f n).Pairwise (fun a b => a.f0 < b.f0) := by
  unfold ctab
  rw [List.pairwise_map]
  exact List.Pairwise.imp (fun h => by show ((_ : Nat) : Int) < ((_ : Nat) : Int); omega) List.pairwise_lt_range
def pk (r : List Cut) (s : Nat) : Nat := (rd_T93 r (s : Int)).f0.toNat
section
variable {f : Nat → Int} {n : Nat} {r : List Cut}
theorem pk_at (hr : r.Perm (ctab f n)) (s : Nat) (hs : s < n) : pk r s < n ∧ rd_T93 r (s : Int) = (⟨(pk r s : Int), f (pk r s)⟩ : Cut) := by
  have hl : r.length = n := by rw [hr.length_eq, ctab_len]
  have hm : rd_T93 r (s : Int) ∈ r := by
    show r.getD ((s : Nat) : Int).toNat _ ∈ r
    rw [Int.toNat_natCast]
    exact mem_rd (by omega)
  obtain ⟨i, hi, e⟩ := mem_ctab.1 (hr.mem_iff.1 hm)
  have e2 : pk r s = i := by
    unfold pk
    rw [e]
    exact Int.toNat_natCast i
  rw [e2]
  exact ⟨hi, e⟩
theorem pk_lex (hr : r.Perm (ctab f n)) (hp : r.Pairwise lexP) {s t : Nat} (hst : s < t) (ht : t < n) : f (pk r t) < f (pk r s) ∨ (f (pk r t) = f (pk r s) ∧ pk r s < pk r t) := by
  have hl : r.length = n := by rw [hr.length_eq, ctab_len]
  have h := List.pairwise_iff_getElem.1 hp s t (by omega) (by omega) hst
  have e : ∀ (i : Nat) (hi : i < r.length), r[i] = rd_T93 r (i : Int) := fun i hi => by
    show r[i] = r.getD ((i : Nat) : Int).toNat _
    rw [Int.toNat_natCast, List.getD_eq_getElem?_getD, List.getElem?_eq_getElem hi]
    rfl
  rw [e s (by omega), e t (by omega), (pk_at hr s (by omega)).2, (pk_at hr t ht).2] at h
  unfold lexP at h
  simp only at h
  omega
theorem pk_inj (hr : r.Perm (ctab f n)) (hp : r.Pairwise lexP) {s t : Nat} (hs : s < n) (ht : t < n) (e : pk r s = pk r t) : s = t := by
  by_cases h1 : s < t
  · have := pk_lex hr hp h1 ht
    rw [e] at this
    omega
  · by_cases h2 : t < s
    · have := pk_lex hr hp h2 hs
      rw [e] at this
      omega
    · omega
theorem pk_onto (hr : r.Perm (ctab f n)) (j : Nat) (hj : j < n) : ∃ t, t < n ∧ pk r t = j := by
  have hl : r.length = n := by rw [hr.length_eq, ctab_len]
  have hm : (⟨(j : Int), f j⟩ : Cut) ∈ r := hr.mem_iff.2 (mem_ctab.2 ⟨j, hj, rfl⟩)
  obtain ⟨t, ht, e⟩ := List.getElem_of_mem hm
  refine ⟨t, by omega, ?_⟩
  have e2 : rd_T93 r (t : Int) = (⟨(j : Int), f j⟩ : Cut) := by
    rw [← e]
    show r.getD ((t : Nat) : Int).toNat _ = r[t]
    rw [Int.toNat_natCast, List.getD_eq_getElem?_getD, List.getElem?_eq_getElem ht]
    rfl
  unfold pk
  rw [e2]
  exact Int.toNat_natCast j
theorem pk_fm (hr : r.Perm (ctab f n)) (hp : r.Pairwise lexP) (hf : ∀ i, i < n → 0 ≤ f i) (s : Nat) (hs : s < n) : fm (rst (pk r) (tab f n) s) n (pk r s) := by
  have hlt : ∀ s, s < (tab f n).length → pk r s < (tab f n).length := fun s hs => by rw [tab_len] at hs ⊢; exact (pk_at hr s hs).1
  have at_ := fun j => rst_at hlt j s (by rw [tab_len]; omega)
  have e0 : ri (rst (pk r) (tab f n) s) (pk r s) = f (pk r s) := by
    rw [(at_ (pk r s)).2 (fun ⟨t, ht, e⟩ => by have := pk_inj hr hp (by omega) hs e; omega), tab_at _ _ _ (pk_at hr s hs).1]
  refine ⟨(pk_at hr s hs).1, fun j hj => ?_⟩
  rw [e0]
  obtain ⟨t, ht, rfl⟩ := pk_onto hr j hj
  by_cases h1 : t < s
  · rw [(at_ (pk r t)).1 ⟨t, h1, rfl⟩]
    have := hf (pk r s) (pk_at hr s hs).1
    omega
  · rw [(at_ (pk r t)).2 (fun ⟨u, hu, e⟩ => by have := pk_inj hr hp (by omega) ht e; omega), tab_at _ _ _ hj]
    by_cases h2 : t = s
    · subst h2; omega
    · have := pk_lex hr hp (show s < t by omega) ht
      omega
end
section
variable {T : Int} {ws : List Int} {S : Int}
theorem af_neg (i : Nat) (hc : mf T ws S i < 0) : af T ws S i = -(mf T ws S i) := if_pos hc
theorem af_pos (i : Nat) (hc : ¬ mf T ws S i < 0) : af T ws S i = mf T ws S i := if_neg hc
theorem rep_tab (f : Nat → Int) (i d : Nat) : (tab f i ++ List.replicate (d + 1) 0).set i (f i) = tab f (i + 1) ++ List.replicate d 0 := by
  have := set_mid (tab f i) 0 (List.replicate d 0) (f i)
  rw [tab_len] at this
  rw [List.replicate_succ, this, tab_succ]
theorem rep_ctab (f : Nat → Int) (z : Cut) (i d : Nat) : (ctab f i ++ List.replicate (d + 1) z).set i (⟨(i : Int), f i⟩ : Cut) = ctab f (i + 1) ++ List.replicate d z := by
  have := set_mid (ctab f i) z (List.replicate d z) (⟨(i : Int), f i⟩ : Cut)
  rw [ctab_len] at this
  rw [List.replicate_succ, this, ctab_succ]
theorem impl_loop (h : Shr T ws S) (res : List Int) (hend : Ev (fun k => impl_Shares.l1 k T S (tab (qf T ws S) ws.length) (ctab (af T ws S) ws.length) ws (ws.length : Int) (ws.length : Int)) res) :
    ∀ (d i : Nat), i + d = ws.length → Ev (fun k => impl_Shares.l1 k T S (tab (qf T ws S) i ++ List.replicate d 0) (ctab (af T ws S) i ++ List.replicate d z93) ws (ws.length : Int) (i : Int)) res := by
  have hn := h.hn
  have hp := h.hp
  have hub := h.ub
  intro d
  induction d with
  | zero =>
    intro i hi
    have e : i = ws.length := by omega
    subst e
    simp only [List.replicate, List.append_nil]
    exact hend
  | succ d ih =>
    intro i hi
    have hi2 : i < ws.length := by omega
    have hpb := prod_bd h i hi2
    have hqi := q_bd1 h i hi2
    obtain ⟨_, _, hm1, hm2⟩ := sgn h i hi2
    have l1 : (tab (qf T ws S) i ++ List.replicate (d + 1) 0).length = ws.length := by rw [List.length_append, tab_len, List.length_replicate]; omega
    have l2 : (ctab (af T ws S) i ++ List.replicate (d + 1) z93).length = ws.length := by rw [List.length_append, ctab_len, List.length_replicate]; omega
    have hw : wrap64 ((i : Int) + 1) = ((i + 1 : Nat) : Int) := by rw [wrap_id (by omega) (by omega)]; omega
    have s1 := rep_tab (qf T ws S) i d
    have s2 := rep_ctab (af T ws S) z93 i d
    have eq1 : Int.tdiv (T * ri ws i) S = qf T ws S i := rfl
    have eq2 : Int.tmod (T * ri ws i) S = mf T ws S i := rfl
    have w1 : wrap64 (T * ri ws i) = T * ri ws i := wrap_id (by omega) (by omega)
    have w2 : wrap64 (qf T ws S i) = qf T ws S i := wrap_id (by omega) (by omega)
    have w4 : wrap64 (-(mf T ws S i)) = -(mf T ws S i) := wrap_id (by omega) (by omega)
    have hS0 : ¬ S = 0 := by omega
    have n1 : (i : Int) < (ws.length : Int) := by omega
    have n0 : (0 : Int) ≤ (i : Int) := by omega
    have n2 : (i : Int) < ((tab (qf T ws S) i ++ List.replicate (d + 1) 0).length : Int) := by rw [l1]; exact n1
    have n3 : (i : Int) < ((ctab (af T ws S) i ++ List.replicate (d + 1) z93).length : Int) := by rw [l2]; exact n1
    have hnext := ih (i + 1) (by omega)
    refine Ev.step (fun _ => rfl) ?_
    simp only [impl_Shares.l1, ri_rd, Int.toNat_natCast, w1, eq1, eq2, w2, hw]
    refine ev_pos n1 (ev_pos n0 (ev_pos n1 (ev_neg hS0 (ev_pos n2 (ev_bind0 rfl ?_)))))
    by_cases hc : mf T ws S i < 0
    · refine ev_pos hc (ev_pos n3 ?_)
      rw [w4, ← af_neg i hc, s1, s2]
      exact hnext
    · refine ev_neg hc (ev_pos n3 ?_)
      rw [← af_pos i hc, s1, s2]
      exact hnext
theorem spec_loop (h : Shr T ws S) (res : List Int) (hend : Ev (fun k => spec_Shares.l1 k T ws (tab (qf T ws S) ws.length) S (tab (af T ws S) ws.length) (T - sm (qf T ws S) ws.length) (ws.length : Int)) res) :
    ∀ (d i : Nat), i + d = ws.length → Ev (fun k => spec_Shares.l1 k T ws (tab (qf T ws S) i) S (tab (af T ws S) i) (T - sm (qf T ws S) i) (i : Int)) res := by
  have hn := h.hn
  have hp := h.hp
  have hub := h.ub
  obtain ⟨hT1, hT2⟩ := h.hT
  intro d
  induction d with
  | zero =>
    intro i hi
    have e : i = ws.length := by omega
    subst e
    exact hend
  | succ d ih =>
    intro i hi
    have hi2 : i < ws.length := by omega
    have n1 : (i : Int) < (ws.length : Int) := by omega
    have n0 : (0 : Int) ≤ (i : Int) := by omega
    have n2 : (tab (qf T ws S) i).length < 17592186044416 := by rw [tab_len]; omega
    have n3 : (tab (af T ws S) i).length < 17592186044416 := by rw [tab_len]; omega
    have hS0 : ¬ S = 0 := by omega
    have hpb := prod_bd h i hi2
    have hqi := q_bd1 h i hi2
    have hqs := q_bd h i (by omega)
    obtain ⟨_, _, hm1, hm2⟩ := sgn h i hi2
    have hw : wrap64 ((i : Int) + 1) = ((i + 1 : Nat) : Int) := by rw [wrap_id (by omega) (by omega)]; omega
    have w4 : wrap64 (-(mf T ws S i)) = -(mf T ws S i) := wrap_id (by omega) (by omega)
    have habs : spec_l1Abs.f (mf T ws S i) = some (af T ws S i) := by
      unfold spec_l1Abs.f
      by_cases hc : mf T ws S i < 0
      · rw [if_pos hc, w4, af_neg i hc]
      · rw [if_neg hc, af_pos i hc]
    have eq1 : Int.tdiv (T * ri ws i) S = qf T ws S i := rfl
    have eq2 : Int.tmod (T * ri ws i) S = mf T ws S i := rfl
    have w1 : wrap64 (T * ri ws i) = T * ri ws i := wrap_id (by omega) (by omega)
    have w2 : wrap64 (qf T ws S i) = qf T ws S i := wrap_id (by omega) (by omega)
    have w3 : wrap64 (T - sm (qf T ws S) i - qf T ws S i) = T - sm (qf T ws S) i - qf T ws S i := wrap_id (by omega) (by omega)
    have hnext := ih (i + 1) (by omega)
    rw [tab_succ, tab_succ] at hnext
    simp only [sm] at hnext
    rw [show T - (sm (qf T ws S) i + qf T ws S i) = T - sm (qf T ws S) i - qf T ws S i by omega] at hnext
    refine Ev.step (fun _ => rfl) ?_
    simp only [spec_Shares.l1, ri_rd, w1, eq1, eq2, w2, hw, w3]
    refine ev_pos n1 (ev_pos n0 (ev_neg hS0 (ev_pos n2 (ev_bind0 habs (ev_pos n3 ?_)))))
    exact hnext
structure Pks (T : Int) (ws : List Int) (S : Int) (r : List Cut) (v one : Int) (m : Nat) : Prop where
  hr : r.Perm (ctab (af T ws S) ws.length)
  hl : r.Pairwise lexP
  hv : T - sm (qf T ws S) ws.length = v
  h1 : one = if v < 0 then -1 else 1
  hm : m ≤ ws.length
  e1 : v = (m : Int) * one
theorem Pks.one' {r : List Cut} {v one : Int} {m : Nat} (p : Pks T ws S r v one m) : one = 1 ∨ one = -1 := by rw [p.h1]; split <;> simp
theorem Pks.lt {r : List Cut} {v one : Int} {m : Nat} (p : Pks T ws S r v one m) : ∀ s, s < (tab (qf T ws S) ws.length).length → pk r s < (tab (qf T ws S) ws.length).length := fun s hs => by rw [tab_len] at hs ⊢; exact (pk_at p.hr s hs).1
theorem Pks.bd {r : List Cut} {v one : Int} {m : Nat} (h : Shr T ws S) (p : Pks T ws S r v one m) : ∀ s, s ≤ ws.length → ∀ j, -300000000000 ≤ ri (bmp one (pk r) (tab (qf T ws S) ws.length) s) j ∧ ri (bmp one (pk r) (tab (qf T ws S) ws.length) s) j ≤ 300000000000 := by
  intro s hs j
  have hn := h.hn
  have hqb : ∀ j, -200000000000 ≤ ri (tab (qf T ws S) ws.length) j ∧ ri (tab (qf T ws S) ws.length) j ≤ 200000000000 := fun j => by
    by_cases hj : j < ws.length
    · rw [tab_at _ _ _ hj]
      exact q_bd1 h j hj
    · unfold ri
      rw [List.getD_eq_getElem?_getD, List.getElem?_eq_none (by rw [tab_len]; omega)]
      simp
  have := bmp_bd (one := one) (p := pk r) (o := tab (qf T ws S) ws.length) (M := 200000000000) (by rcases p.one' with e | e <;> omega) p.lt hqb s (by rw [tab_len]; exact hs) j
  omega
theorem Pks.big {r : List Cut} {v one : Int} {m : Nat} (h : Shr T ws S) (p : Pks T ws S r v one m) (s j : Nat) (hs : s ≤ ws.length) : -9000000000000000000 ≤ ri (bmp one (pk r) (tab (qf T ws S) ws.length) s) j ∧ ri (bmp one (pk r) (tab (qf T ws S) ws.length) s) j ≤ 9000000000000000000 := by
  have := p.bd h s hs j
  omega
theorem impl_end {r : List Cut} {v one : Int} {m : Nat} (h : Shr T ws S) (p : Pks T ws S r v one m) (hs : Ev (fun k => impl_cutOff.f k (ctab (af T ws S) ws.length) ()) r) :
    Ev (fun k => impl_Shares.l1 k T S (tab (qf T ws S) ws.length) (ctab (af T ws S) ws.length) ws (ws.length : Int) (ws.length : Int)) (bmp one (pk r) (tab (qf T ws S) ws.length) m) := by
  have hn := h.hn
  obtain ⟨hT1, hT2⟩ := h.hT
  have hq := q_bd h ws.length (Nat.le_refl _)
  have hv := p.hv
  have hm := p.hm
  have h1 := p.h1
  have e1 := p.e1
  have hvb : -1000000000000 ≤ v ∧ v ≤ 1000000000000 := by omega
  have hsum : Ev (fun k => impl_sumOf.f k (tab (qf T ws S) ws.length)) (sm (qf T ws S) ws.length) := by
    have h2 := sumOf_ev (tab (qf T ws S) ws.length) 300000000000 (by omega) (by omega) (by rw [tab_len]; omega) (fun j _ => p.bd h 0 (by omega) j)
    refine ev_eq h2 ?_
    rw [tab_len]
    exact sm_congr _ (fun j hj => tab_at _ _ _ hj)
  have hend : ∀ (a : Int), a = (m : Int) → Ev (fun k => impl_Shares.j3 k (tab (qf T ws S) ws.length) (ctab (af T ws S) ws.length) a one) (bmp one (pk r) (tab (qf T ws S) ws.length) m) := by
    intro a ha
    subst ha
    refine Ev.step (fun _ => rfl) ?_
    simp only [impl_Shares.j3]
    refine ev_bind hs ?_
    exact impl_picks (Q := tab (qf T ws S) ws.length) (r := r) (one := one) (p := pk r) p.one' (by rw [tab_len]; omega) (by rw [tab_len, p.hr.length_eq, ctab_len]) (fun s hs => ⟨p.lt s hs, by rw [(pk_at p.hr s (by rw [tab_len] at hs; exact hs)).2]⟩) (fun s j hs => p.big h s j (by rw [tab_len] at hs; exact hs)) m (by rw [tab_len]; exact hm) m 0 (by omega)
  refine Ev.step (fun _ => rfl) ?_
  have w1 : wrap64 v = v := wrap_id (by omega) (by omega)
  simp only [impl_Shares.l1]
  refine ev_neg (by omega) (ev_bind hsum ?_)
  simp only [hv, w1]
  by_cases hneg : v < 0
  · rw [if_pos hneg] at h1
    subst h1
    exact ev_pos hneg (hend (wrap64 (-v)) (by rw [wrap_id (by omega) (by omega)]; omega))
  · rw [if_neg hneg] at h1
    subst h1
    exact ev_neg hneg (hend v (by omega))
theorem spec_end {r : List Cut} {v one : Int} {m : Nat} (h : Shr T ws S) (p : Pks T ws S r v one m) :
    Ev (fun k => spec_Shares.l1 k T ws (tab (qf T ws S) ws.length) S (tab (af T ws S) ws.length) (T - sm (qf T ws S) ws.length) (ws.length : Int)) (bmp one (pk r) (tab (qf T ws S) ws.length) m) := by
  have hn := h.hn
  have hm := p.hm
  have h1 := p.h1
  have e1 := p.e1
  have hend : Ev (fun k => spec_Shares.j3 k (tab (qf T ws S) ws.length) (tab (af T ws S) ws.length) v one) (bmp one (pk r) (tab (qf T ws S) ws.length) m) := by
    refine Ev.step (fun _ => rfl) ?_
    simp only [spec_Shares.j3]
    have := spec_picks (Q := tab (qf T ws S) ws.length) (R := tab (af T ws S) ws.length) (one := one) (p := pk r) p.one' (by rw [tab_len]; omega) (by rw [tab_len, tab_len]) (fun s hs => by rw [tab_len] at hs ⊢; exact (pk_at p.hr s hs).1) (fun s hs => by rw [tab_len] at hs ⊢; exact pk_fm p.hr p.hl (fun i hi => (af_bd h i hi).1) s hs) (fun s j hs => p.big h s j (by rw [tab_len] at hs; exact hs)) m (by rw [tab_len]; exact hm) m 0 (by omega)
    rw [e1]
    exact this
  refine Ev.step (fun _ => rfl) ?_
  simp only [spec_Shares.l1, p.hv]
  refine ev_neg (by omega) ?_
  by_cases hneg : v < 0
  · rw [if_pos hneg] at h1
    subst h1
    exact ev_pos hneg hend
  · rw [if_neg hneg] at h1
    subst h1
    exact ev_neg hneg hend
theorem shares_good (h : Shr T ws S) : ∃ res, Ev (fun k => impl_Shares.l1 k T S (List.replicate ws.length 0) (List.replicate ws.length z93) ws (ws.length : Int) 0) res ∧ Ev (fun k => spec_Shares.l1 k T ws [] S [] T 0) res ∧
    res.length = ws.length ∧ sm (ri res) ws.length = T ∧ ∀ j, -300000000000 ≤ ri res j ∧ ri res j ≤ 300000000000 := by
  have hn := h.hn
  obtain ⟨r, hs, hr, hl⟩ := sort_ok ws.length (ctab (af T ws S) ws.length) (ctab_len _ _) (by omega) (ctab_up _ _)
  have hlb := left_bd h
  obtain ⟨v, hv⟩ : ∃ v, T - sm (qf T ws S) ws.length = v := ⟨_, rfl⟩
  rw [hv] at hlb
  obtain ⟨one, m, h1, hm, e1⟩ : ∃ (one : Int) (m : Nat), (one = if v < 0 then -1 else 1) ∧ m ≤ ws.length ∧ v = (m : Int) * one := by
    by_cases hneg : v < 0
    · exact ⟨-1, v.natAbs, by rw [if_pos hneg], by omega, by omega⟩
    · exact ⟨1, v.natAbs, by rw [if_neg hneg], by omega, by omega⟩
  have p : Pks T ws S r v one m := ⟨hr, hl, hv, h1, hm, e1⟩
  refine ⟨bmp one (pk r) (tab (qf T ws S) ws.length) m, impl_loop h _ (impl_end h p hs) ws.length 0 (by omega), ?_, ?_, ?_, ?_⟩
  · have := spec_loop h _ (spec_end h p) ws.length 0 (by omega)
    simp only [sm, Int.sub_zero] at this
    exact this
  · rw [bmp_len, tab_len]
  · have := bmp_sum (one := one) (p := pk r) (o := tab (qf T ws S) ws.length) p.lt m (by rw [tab_len]; exact hm)
    rw [tab_len] at this
    rw [this, sm_congr (g := qf T ws S) ws.length (fun j hj => tab_at _ _ _ hj)]
    omega
  · exact p.bd h m hm
end
theorem shares_two (T : Int) (ws : List Int) (hl : ws.length ≤ 1000) : ∃ r, Ev (fun k => impl_Shares.f k T ws) r ∧ Ev (fun k => spec_Shares.f k T ws) r ∧
    (r ≠ [] → amt T ∧ r.length = ws.length ∧ sm (ri r) ws.length = T ∧ ∀ j, -300000000000 ≤ ri r j ∧ ri r j ≤ 300000000000) ∧
    (amt T → ws.length ≤ 200 → ws ≠ [] → (∀ j, j < ws.length → fac (ri ws j)) → sm (ri ws) ws.length ≠ 0 → r ≠ []) := by
  have ij : ∀ b : Bool, b = true → Ev (fun k => impl_Shares.j0 k T ws b) [] := fun b hb => by
    refine Ev.step (fun _ => rfl) ?_
    simp only [impl_Shares.j0]
    exact ev_pos hb (ev_some _)
  have sj : ∀ b : Bool, b = true → Ev (fun k => spec_Shares.j0 k T ws [] b) [] := fun b hb => by
    refine Ev.step (fun _ => rfl) ?_
    simp only [spec_Shares.j0]
    exact ev_pos hb (ev_some _)
  by_cases hT : amt T
  · by_cases hn : ws.length ≤ 200
    · have hsl : ∀ (B R : List Int), ((∀ j, j < ws.length → fac (ri ws j)) → Ev (fun k => if sm (ri ws) ws.length = 0 then some [] else spec_Shares.l1 k T ws [] (sm (ri ws) ws.length) [] T 0) R) → B = [] → Ev (fun k => spec_Shares.j0 k T ws [] (decide ((ws.length : Int) > 200))) (if (∀ j, j < ws.length → fac (ri ws j)) then R else B) := by
        intro B R hR hB
        subst hB
        obtain ⟨g1, g2⟩ := ev_loop (F := fun k x => spec_Shares.l0 k T ws [] (sm (ri ws) x.toNat) x) (n := ws.length) (p := fun j => fac (ri ws j)) (R := R) (bad := [])
          (fun hall => by
            refine Ev.step (fun _ => rfl) ?_
            simp only [spec_Shares.l0, Int.toNat_natCast]
            exact ev_neg (by omega) (hR hall))
          (fun i q hi hpre hp hq => by
            refine Ev.step (fun _ => rfl) ?_
            simp only [spec_Shares.l0, Int.toNat_natCast, ri_rd]
            have b1 := sm_bd (f := ri ws) (M := 10000000) (by omega) i (fun j hj => by have := hpre j hj; unfold fac at this; omega)
            have b2 : fac (ri ws i) := hp
            unfold fac at b2
            rw [wrap_id (x := sm (ri ws) i + ri ws i) (by omega) (by omega), wrap_id (x := (i : Int) + 1) (by omega) (by omega)]
            have e : (((i + 1 : Nat) : Int)).toNat = i + 1 := Int.toNat_natCast _
            simp only [e] at hq
            exact ev_pos (by omega) (ev_pos (by omega) (ev_bind0 (fac_s _) (ev_pos (decide_eq_true hp) hq))))
          (fun i hi _ hp => by
            refine Ev.step (fun _ => rfl) ?_
            simp only [spec_Shares.l0, Int.toNat_natCast, ri_rd]
            exact ev_pos (by omega) (ev_pos (by omega) (ev_bind0 (fac_s _) (ev_neg (by simpa using hp) (ev_some _)))))
        refine Ev.step (fun _ => rfl) ?_
        simp only [spec_Shares.j0]
        refine ev_neg (by simp; omega) ?_
        by_cases hall : ∀ j, j < ws.length → fac (ri ws j)
        · rw [if_pos hall]; exact g1 hall
        · rw [if_neg hall]; exact g2 hall
      have spec_ : ∀ r, Ev (fun k => spec_Shares.j0 k T ws [] (decide ((ws.length : Int) > 200))) r → Ev (fun k => spec_Shares.f k T ws) r := fun r hr => by
        unfold spec_Shares.f
        exact ev_bind0 rfl (ev_bind0 (amt_s T) (ev_pos (decide_eq_true hT) hr))
      by_cases h0 : ws.length = 0
      · have e0 : ws = [] := List.length_eq_zero_iff.1 h0
        refine ⟨[], ?_, spec_ _ ?_, fun h => absurd rfl h, fun _ _ h3 _ _ => absurd e0 h3⟩
        · unfold impl_Shares.f
          exact ev_bind0 (amt_i T) (ev_pos (decide_eq_true hT) (ev_pos (by omega) (ij _ rfl)))
        · have := hsl [] [] (fun _ => by
            refine ev_pos ?_ (ev_some _)
            rw [h0]; rfl) rfl
          refine ev_eq this ?_
          split <;> rfl
      · have impl_ : ∀ R : List Int, ((∀ j, j < ws.length → fac (ri ws j)) → Ev (fun k => if sm (ri ws) ws.length = 0 then some [] else impl_Shares.l1 k T (sm (ri ws) ws.length) (List.replicate ws.length 0) (List.replicate ws.length z93) ws (ws.length : Int) 0) R) → Ev (fun k => impl_Shares.f k T ws) (if (∀ j, j < ws.length → fac (ri ws j)) then R else []) := by
          intro R hR
          obtain ⟨g1, g2⟩ := ev_loop (F := fun k x => impl_Shares.l0 k T ws ws (ws.length : Int) x) (n := ws.length) (p := fun j => fac (ri ws j)) (R := R) (bad := [])
            (fun hall => by
              refine Ev.step (fun _ => rfl) ?_
              simp only [impl_Shares.l0, Int.toNat_natCast]
              refine ev_neg (by omega) (ev_bind (sumOf_ev ws 10000000 (by omega) (by omega) (by omega) (fun j hj => by have := hall j hj; unfold fac at this; omega)) ?_)
              have hR2 := hR hall
              by_cases hz : sm (ri ws) ws.length = 0
              · have e : R = [] := ev_unique hR2 (ev_pos hz (ev_some _))
                rw [e]
                exact ev_pos hz (ev_some _)
              · refine ev_neg hz (ev_pos (by omega) (ev_pos (by omega) (ev_pos (by omega) ?_)))
                obtain ⟨K, hK⟩ := hR2
                exact ⟨K, fun k hk => by have := hK k hk; simpa only [if_neg hz] using this⟩)
            (fun i q hi hpre hp hq => by
              refine Ev.step (fun _ => rfl) ?_
              simp only [impl_Shares.l0, ri_rd]
              rw [wrap_succ hi (by omega)]
              exact ev_pos (by omega) (ev_pos (by omega) (ev_pos (by omega) (ev_bind0 (fac_i _) (ev_pos (decide_eq_true hp) hq)))))
            (fun i hi _ hp => by
              refine Ev.step (fun _ => rfl) ?_
              simp only [impl_Shares.l0, ri_rd]
              exact ev_pos (by omega) (ev_pos (by omega) (ev_pos (by omega) (ev_bind0 (fac_i _) (ev_neg (by simpa using hp) (ev_some _))))))
          unfold impl_Shares.f
          refine ev_bind0 (amt_i T) (ev_pos (decide_eq_true hT) (ev_neg (by omega) ?_))
          refine Ev.step (fun _ => rfl) ?_
          simp only [impl_Shares.j0]
          refine ev_neg (by simp; omega) ?_
          by_cases hall : ∀ j, j < ws.length → fac (ri ws j)
          · rw [if_pos hall]; exact g1 hall
          · rw [if_neg hall]; exact g2 hall
        by_cases hall : ∀ j, j < ws.length → fac (ri ws j)
        · by_cases hz : sm (ri ws) ws.length = 0
          · refine ⟨[], ?_, spec_ _ ?_, fun h => absurd rfl h, fun _ _ _ _ h5 => absurd hz h5⟩
            · refine ev_eq (impl_ [] (fun _ => ev_pos hz (ev_some _))) ?_
              split <;> rfl
            · refine ev_eq (hsl [] [] (fun _ => ev_pos hz (ev_some _)) rfl) ?_
              split <;> rfl
          · have hsh : Shr T ws (sm (ri ws) ws.length) := by
              refine ⟨hT, by omega, hall, rfl, ?_⟩
              have hnn : ∀ n, n ≤ ws.length → 0 ≤ sm (ri ws) n := by
                intro n
                induction n with
                | zero => intro _; simp [sm]
                | succ n ih =>
                  intro hn2
                  have h1 := ih (by omega)
                  have h2 := (hall n (by omega)).1
                  simp only [sm]
                  omega
              have := hnn ws.length (Nat.le_refl _)
              omega
            obtain ⟨res, r1, r2, r3, r4, r5⟩ := shares_good hsh
            refine ⟨res, ?_, spec_ _ ?_, fun _ => ⟨hT, r3, r4, r5⟩, fun _ _ _ _ _ e => by rw [e] at r3; exact h0 r3.symm⟩
            · have := impl_ res (fun _ => ev_neg hz r1)
              rwa [if_pos hall] at this
            · have := hsl [] res (fun _ => ev_neg hz r2) rfl
              rwa [if_pos hall] at this
        · refine ⟨[], ?_, spec_ _ ?_, fun h => absurd rfl h, fun _ _ _ h4 _ => absurd h4 hall⟩
          · have := impl_ [] (fun h => absurd h hall)
            rwa [if_neg hall] at this
          · have := hsl [] [] (fun h => absurd h hall) rfl
            rwa [if_neg hall] at this
    · refine ⟨[], ?_, ?_, fun h => absurd rfl h, fun _ h2 _ _ _ => absurd h2 hn⟩
      · unfold impl_Shares.f
        exact ev_bind0 (amt_i T) (ev_pos (decide_eq_true hT) (ev_neg (by omega) (ij _ (by simp; omega))))
      · unfold spec_Shares.f
        exact ev_bind0 rfl (ev_bind0 (amt_s T) (ev_pos (decide_eq_true hT) (sj _ (by simp; omega))))
  · refine ⟨[], ?_, ?_, fun h => absurd rfl h, fun h1 _ _ _ _ => absurd h1 hT⟩
    · unfold impl_Shares.f
      exact ev_bind0 (amt_i T) (ev_neg (by simpa using hT) (ij _ rfl))
    · unfold spec_Shares.f
      exact ev_bind0 rfl (ev_bind0 (amt_s T) (ev_neg (by simpa using hT) (sj _ rfl)))
theorem shares_eq (T : Int) (ws : List Int) (hl : ws.length ≤ 1000) : ∃ r, Ev (fun k => impl_Shares.f k T ws) r ∧ Ev (fun k => spec_Shares.f k T ws) r ∧
    (r ≠ [] → amt T ∧ r.length = ws.length ∧ sm (ri r) ws.length = T ∧ ∀ j, -300000000000 ≤ ri r j ∧ ri r j ≤ 300000000000) := by
  obtain ⟨r, h1, h2, h3, _⟩ := shares_two T ws hl
  exact ⟨r, h1, h2, h3⟩
end Go.Proofs.Ytadehdkmggpehaa.PFnMutualWhole
