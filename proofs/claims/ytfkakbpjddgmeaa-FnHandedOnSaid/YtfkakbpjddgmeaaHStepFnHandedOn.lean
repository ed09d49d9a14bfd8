import Derived.Test.YtfkakbpjddgmeaaHSharesEvFnHandedOn
set_option linter.unusedVariables false
set_option linter.unusedSimpArgs false
namespace Go.Proofs.Ytfkakbpjddgmeaa.PFnHandedOn
open Go Go.RowKit Go.Proofs.YtfkakbpjddgmeaaW.PrintWords Go.Proofs.YtfkakbpjddgmeaaW.PrintLast Go.Proofs.Ytfkakbpjddgmeaa.MapWords Go.Proofs.Ytfkakbpjddgmeaa.IterWords Go.Proofs.Ytfkakbpjddgmeaa.EvWords
open Classical
abbrev Rul := S31
def ru (R : List Rul) (i : Nat) : Rul := R.getD i z31
theorem ru_rd (R : List Rul) (i : Nat) : rd_T31 R (i : Int) = ru R i := rfl
def mp (g : List Int) : List (Int × Bool) := g.reverse.map (fun x => (x, true))
theorem rd_ri (l : List Int) (t : Int) : rd l t = ri l t.toNat := rfl
theorem mp_snoc (g : List Int) (x : Int) : mp (g ++ [x]) = (x, true) :: mp g := by simp [mp]
theorem mp_len (g : List Int) : (mp g).length = g.length := by simp [mp]
theorem mget_true (l : List Int) (x : Int) : mget false (l.map (fun x => (x, true))) x = true ↔ x ∈ l := by
  induction l with
  | nil => simp [mget]
  | cons a l ih =>
    simp only [List.map_cons, mget]
    by_cases h : a = x
    · subst h; simp
    · rw [if_neg h, ih]
      simp only [List.mem_cons]
      exact ⟨fun h2 => .inr h2, fun h2 => h2.elim (fun e => absurd e.symm h) id⟩
theorem mget_mp (g : List Int) (x : Int) : mget false (mp g) x = true ↔ x ∈ g := by
  unfold mp
  rw [mget_true, List.mem_reverse]
theorem mem_ri {l : List Int} {x : Int} : x ∈ l ↔ ∃ j, j < l.length ∧ ri l j = x := by
  constructor
  · intro h
    obtain ⟨j, hj, e⟩ := List.getElem_of_mem h
    refine ⟨j, hj, ?_⟩
    unfold ri
    rw [List.getD_eq_getElem?_getD, List.getElem?_eq_getElem hj]
    exact e
  · rintro ⟨j, hj, rfl⟩
    exact mem_rd hj
theorem has_ev (l : List Int) (a : Int) (hl : l.length ≤ 1000) : Ev (fun k => spec_l7Has.f k l a) (decide (a ∈ l)) := by
  unfold spec_l7Has.f
  obtain ⟨g1, g2⟩ := ev_loop (F := fun k x => spec_l7Has.l0 k l a x) (n := l.length) (p := fun j => ¬ ri l j = a) (R := false) (bad := true)
    (fun _ => by
      refine Ev.step (fun _ => rfl) ?_
      simp only [spec_l7Has.l0]
      exact ev_neg (by omega) (ev_some _))
    (fun i r hi _ hp h => by
      refine Ev.step (fun _ => rfl) ?_
      simp only [spec_l7Has.l0, ri_rd]
      refine ev_pos (by omega) (ev_pos (by omega) (ev_neg hp ?_))
      rw [wrap_succ hi (by omega)]
      exact h)
    (fun i hi _ hp => by
      refine Ev.step (fun _ => rfl) ?_
      simp only [spec_l7Has.l0, ri_rd]
      exact ev_pos (by omega) (ev_pos (by omega) (ev_pos (Classical.not_not.1 hp) (ev_some _))))
  by_cases h : ∀ j, j < l.length → ¬ ri l j = a
  · rw [decide_eq_false (fun hm => by obtain ⟨j, hj, e⟩ := mem_ri.1 hm; exact h j hj e)]
    exact g1 h
  · rw [decide_eq_true]
    · exact g2 h
    · by_cases hm : a ∈ l
      · exact hm
      · exact absurd (fun j hj e => hm (mem_ri.2 ⟨j, hj, e⟩)) h
def addA (ts ps o : List Int) : Nat → List Int
  | 0 => o
  | j + 1 => (addA ts ps o j).set (ri ts j).toNat (ri (addA ts ps o j) (ri ts j).toNat + ri ps j)
section
variable {ts ps o : List Int}
theorem addA_len : ∀ j, (addA ts ps o j).length = o.length
  | 0 => rfl
  | j + 1 => by simp [addA, addA_len j]
def addC (ts ps o : List Int) (j : Nat) : Prop := amt (ri (addA ts ps o j) (ri ts j).toNat + ri ps j)
theorem addA_amt (ho : ∀ x, amt (ri o x)) (ht : ∀ j, j < ts.length → (ri ts j).toNat < o.length) : ∀ j, j ≤ ts.length → (∀ i, i < j → addC ts ps o i) → ∀ x, amt (ri (addA ts ps o j) x)
  | 0, _, _ => ho
  | j + 1, hj, hc => fun x => by
    have h1 := addA_amt ho ht j (by omega) (fun i hi => hc i (by omega)) x
    have h2 := hc j (by omega)
    simp only [addA]
    rw [ri_set _ _ _ _ (by rw [addA_len]; exact ht j (by omega))]
    split
    · exact h2
    · exact h1
theorem addA_sum (ht : ∀ j, j < ts.length → (ri ts j).toNat < o.length) : ∀ j, j ≤ ts.length → sm (ri (addA ts ps o j)) o.length = sm (ri o) o.length + sm (ri ps) j
  | 0, _ => by simp [addA, sm]
  | j + 1, hj => by
    have h := ht j (by omega)
    simp only [addA, sm]
    rw [sm_set _ _ _ (by rw [addA_len]; exact h) _ h, addA_sum ht j (by omega)]
    omega
theorem addA_off (ht : ∀ j, j < ts.length → (ri ts j).toNat < o.length) (x : Nat) (hx : ∀ j, j < ts.length → (ri ts j).toNat ≠ x) : ∀ j, j ≤ ts.length → ri (addA ts ps o j) x = ri o x
  | 0, _ => rfl
  | j + 1, hj => by
    simp only [addA]
    rw [ri_set _ _ _ _ (by rw [addA_len]; exact ht j (by omega)), if_neg (hx j (by omega)), addA_off ht x hx j (by omega)]
end
def toP (n : Nat) (g ts : List Int) (j : Nat) : Prop := (0 ≤ ri ts j ∧ ri ts j < (n : Int)) ∧ ri ts j ∉ ts.take j ∧ ri ts j ∉ g
theorem take_snoc {l : List Int} {j : Nat} (h : j < l.length) : l.take (j + 1) = l.take j ++ [ri l j] := by
  rw [List.take_succ_eq_append_getElem h]
  unfold ri
  rw [List.getD_eq_getElem?_getD, List.getElem?_eq_getElem h]
  rfl
section
variable {R : List Rul} {costs out g ts ws : List Int} {i : Nat} {fr : Int}
theorem impl_to (hl : ts.length ≤ 200) (hn : out.length ≤ 1000) (Q : List Int × Bool)
    (hE : (∀ j, j < ts.length → toP out.length g ts j) → Ev (fun k => impl_StepDown.l1 k out (mp g) (mp ts) R (R.length : Int) (i : Int) ts (ts.length : Int) (ts.length : Int) fr ts ws) Q) :
    Ev (fun k => impl_StepDown.l1 k out (mp g) [] R (R.length : Int) (i : Int) ts (ts.length : Int) 0 fr ts ws) (if ∀ j, j < ts.length → toP out.length g ts j then Q else ([], false)) := by
  obtain ⟨g1, g2⟩ := ev_loop (F := fun k x => impl_StepDown.l1 k out (mp g) (mp (ts.take x.toNat)) R (R.length : Int) (i : Int) ts (ts.length : Int) x fr ts ws) (n := ts.length) (p := toP out.length g ts) (R := Q) (bad := ([], false))
    (fun hall => by
      simp only [Int.toNat_natCast, List.take_length]
      exact hE hall)
    (fun j q hj _ hp hq => by
      obtain ⟨⟨a, b⟩, c, d⟩ := hp
      refine Ev.step (fun _ => rfl) ?_
      simp only [impl_StepDown.l1, Int.toNat_natCast, ri_rd]
      have e : (((j + 1 : Nat) : Int)).toNat = j + 1 := Int.toNat_natCast _
      simp only [e, take_snoc hj, mp_snoc] at hq
      rw [wrap_succ hj (by omega)]
      exact ev_pos (by omega) (ev_pos (by omega) (ev_pos (by omega) (ev_neg (by omega) (ev_neg (by omega) (ev_pos (by omega) (ev_pos (by omega) (ev_neg (fun h => c ((mget_mp _ _).1 h)) (ev_neg (fun h => d ((mget_mp _ _).1 h)) (ev_pos (by rw [mp_len, List.length_take]; omega) hq))))))))))
    (fun j hj _ hp => by
      refine Ev.step (fun _ => rfl) ?_
      simp only [impl_StepDown.l1, Int.toNat_natCast, ri_rd]
      refine ev_pos (by omega) (ev_pos (by omega) (ev_pos (by omega) ?_))
      by_cases a : ri ts j < 0
      · exact ev_pos a (ev_some _)
      · refine ev_neg a ?_
        by_cases b : ri ts j ≥ (out.length : Int)
        · exact ev_pos b (ev_some _)
        · refine ev_neg b (ev_pos (by omega) (ev_pos (by omega) ?_))
          by_cases c : ri ts j ∈ ts.take j
          · exact ev_pos ((mget_mp _ _).2 c) (ev_some _)
          · refine ev_neg (fun h => c ((mget_mp _ _).1 h)) ?_
            by_cases d : ri ts j ∈ g
            · exact ev_pos ((mget_mp _ _).2 d) (ev_some _)
            · exact absurd ⟨⟨by omega, by omega⟩, c, d⟩ hp)
  by_cases h : ∀ j, j < ts.length → toP out.length g ts j
  · rw [if_pos h]; exact g1 h
  · rw [if_neg h]; exact g2 h
theorem spec_to (hl : ts.length ≤ 200) (hn : costs.length ≤ 1000) (hn1 : 1 ≤ costs.length) (hg : g.length ≤ 1000) (Q : List Int × Bool)
    (hE : (∀ j, j < ts.length → toP costs.length g ts j) → Ev (fun k => spec_StepDown.l1 k costs R [] out g (i : Int) (ts.length : Int) fr ts ws) Q) :
    Ev (fun k => spec_StepDown.l1 k costs R [] out g (i : Int) 0 fr ts ws) (if ∀ j, j < ts.length → toP costs.length g ts j then Q else ([], false)) := by
  have hw : wrap64 ((costs.length : Int) - 1) = (costs.length : Int) - 1 := wrap_id (by omega) (by omega)
  obtain ⟨g1, g2⟩ := ev_loop (F := fun k x => spec_StepDown.l1 k costs R [] out g (i : Int) x fr ts ws) (n := ts.length) (p := toP costs.length g ts) (R := Q) (bad := ([], false))
    (fun hall => hE hall)
    (fun j q hj _ hp hq => by
      obtain ⟨⟨a, b⟩, c, d⟩ := hp
      refine Ev.step (fun _ => rfl) ?_
      simp only [spec_StepDown.l1, Int.toNat_natCast, ri_rd, hw]
      rw [wrap_succ hj (by omega)]
      exact ev_pos (by omega) (ev_pos (by omega) (ev_bind0 (l1In_eq _ _ _) (ev_pos (decide_eq_true ⟨a, by omega⟩) (ev_bind (has_ev g _ hg) (ev_neg (by simpa using d) (ev_pos (by omega) (ev_bind (has_ev _ _ (by rw [List.length_take]; omega)) (ev_neg (by simpa using c) hq)))))))))
    (fun j hj _ hp => by
      refine Ev.step (fun _ => rfl) ?_
      simp only [spec_StepDown.l1, Int.toNat_natCast, ri_rd, hw]
      refine ev_pos (by omega) (ev_pos (by omega) (ev_bind0 (l1In_eq _ _ _) ?_))
      by_cases a : 0 ≤ ri ts j ∧ ri ts j ≤ (costs.length : Int) - 1
      · refine ev_pos (decide_eq_true a) (ev_bind (has_ev g _ hg) ?_)
        by_cases d : ri ts j ∈ g
        · exact ev_pos (decide_eq_true d) (ev_some _)
        · refine ev_neg (by simpa using d) (ev_pos (by omega) (ev_bind (has_ev _ _ (by rw [List.length_take]; omega)) ?_))
          by_cases c : ri ts j ∈ ts.take j
          · exact ev_pos (decide_eq_true c) (ev_some _)
          · exact absurd ⟨⟨a.1, by omega⟩, c, d⟩ hp
      · exact ev_neg (by simpa using a) (ev_some _))
  by_cases h : ∀ j, j < ts.length → toP costs.length g ts j
  · rw [if_pos h]; exact g1 h
  · rw [if_neg h]; exact g2 h
theorem impl_add {gm : List (Int × Bool)} {ps : List Int} (hl : ts.length ≤ 200) (hp : ps.length = ts.length) (hb : ∀ j, -300000000000 ≤ ri ps j ∧ ri ps j ≤ 300000000000) (ho : ∀ x, amt (ri out x)) (ht : ∀ j, j < ts.length → 0 ≤ ri ts j ∧ ri ts j < (out.length : Int)) (Q : List Int × Bool)
    (hE : (∀ j, j < ts.length → addC ts ps out j) → Ev (fun k => impl_StepDown.l0 k (addA ts ps out ts.length) gm R (R.length : Int) (wrap64 ((i : Int) + 1))) Q) :
    Ev (fun k => impl_StepDown.l2 k out gm ps R (R.length : Int) (i : Int) ts (ts.length : Int) 0) (if ∀ j, j < ts.length → addC ts ps out j then Q else ([], false)) := by
  have ht' : ∀ j, j < ts.length → (ri ts j).toNat < out.length := fun j hj => by have := ht j hj; omega
  have key : ∀ j, j < ts.length → (∀ q, q < j → addC ts ps out q) → rd (addA ts ps out j) (ri ts j) = ri (addA ts ps out j) (ri ts j).toNat ∧ wrap64 (ri (addA ts ps out j) (ri ts j).toNat + ri ps j) = ri (addA ts ps out j) (ri ts j).toNat + ri ps j := fun j hj hc => by
    refine ⟨rd_ri _ _, ?_⟩
    have h1 := addA_amt ho ht' j (by omega) hc (ri ts j).toNat
    have h2 := hb j
    unfold amt at h1
    exact wrap_id (by omega) (by omega)
  obtain ⟨g1, g2⟩ := ev_loop (F := fun k x => impl_StepDown.l2 k (addA ts ps out x.toNat) gm ps R (R.length : Int) (i : Int) ts (ts.length : Int) x) (n := ts.length) (p := addC ts ps out) (R := Q) (bad := ([], false))
    (fun hall => by
      refine Ev.step (fun _ => rfl) ?_
      simp only [impl_StepDown.l2, Int.toNat_natCast]
      exact ev_neg (by omega) (hE hall))
    (fun j q hj hpre hc hq => by
      have h1 := ht j hj
      have n0 : (0 : Int) ≤ (j : Int) := by omega
      have n1 : (j : Int) < (ts.length : Int) := by omega
      have n3 : (j : Int) < (ps.length : Int) := by omega
      have n2 : ri ts j < ((addA ts ps out j).length : Int) := by rw [addA_len]; exact h1.2
      have e : (((j + 1 : Nat) : Int)).toNat = j + 1 := Int.toNat_natCast _
      simp only [e] at hq
      have hw := wrap_succ hj (show ts.length ≤ 9223372036854775807 by omega)
      obtain ⟨k1, k2⟩ := key j hj hpre
      refine Ev.step (fun _ => rfl) ?_
      simp only [impl_StepDown.l2, Int.toNat_natCast, ri_rd, k1, k2, hw]
      exact ev_pos n1 (ev_pos n0 (ev_pos n1 (ev_pos h1.1 (ev_pos n2 (ev_pos n3 (ev_bind0 (amt_i _) (ev_pos (decide_eq_true hc) hq))))))))
    (fun j hj hpre hc => by
      have h1 := ht j hj
      have n0 : (0 : Int) ≤ (j : Int) := by omega
      have n1 : (j : Int) < (ts.length : Int) := by omega
      have n3 : (j : Int) < (ps.length : Int) := by omega
      have n2 : ri ts j < ((addA ts ps out j).length : Int) := by rw [addA_len]; exact h1.2
      obtain ⟨k1, k2⟩ := key j hj hpre
      refine Ev.step (fun _ => rfl) ?_
      simp only [impl_StepDown.l2, Int.toNat_natCast, ri_rd, k1, k2]
      exact ev_pos n1 (ev_pos n0 (ev_pos n1 (ev_pos h1.1 (ev_pos n2 (ev_pos n3 (ev_bind0 (amt_i _) (ev_neg (by simpa [addC] using hc) (ev_some _)))))))))
  by_cases h : ∀ j, j < ts.length → addC ts ps out j
  · rw [if_pos h]; exact g1 h
  · rw [if_neg h]; exact g2 h
theorem spec_add {ps : List Int} (hl : ts.length ≤ 200) (hp : ps.length = ts.length) (hb : ∀ j, -300000000000 ≤ ri ps j ∧ ri ps j ≤ 300000000000) (ho : ∀ x, amt (ri out x)) (ht : ∀ j, j < ts.length → 0 ≤ ri ts j ∧ ri ts j < (out.length : Int)) (Q : List Int × Bool)
    (hE : (∀ j, j < ts.length → addC ts ps out j) → Ev (fun k => spec_StepDown.l0 k costs R [] (addA ts ps out ts.length) g (wrap64 ((i : Int) + 1))) Q) :
    Ev (fun k => spec_StepDown.l2 k costs R [] out g (i : Int) ps 0 fr ts ws) (if ∀ j, j < ts.length → addC ts ps out j then Q else ([], false)) := by
  have ht' : ∀ j, j < ts.length → (ri ts j).toNat < out.length := fun j hj => by have := ht j hj; omega
  have key : ∀ j, j < ts.length → (∀ q, q < j → addC ts ps out q) → rd (addA ts ps out j) (ri ts j) = ri (addA ts ps out j) (ri ts j).toNat ∧ wrap64 (ri (addA ts ps out j) (ri ts j).toNat + ri ps j) = ri (addA ts ps out j) (ri ts j).toNat + ri ps j := fun j hj hc => by
    refine ⟨rd_ri _ _, ?_⟩
    have h1 := addA_amt ho ht' j (by omega) hc (ri ts j).toNat
    have h2 := hb j
    unfold amt at h1
    exact wrap_id (by omega) (by omega)
  obtain ⟨g1, g2⟩ := ev_loop (F := fun k x => spec_StepDown.l2 k costs R [] (addA ts ps out x.toNat) g (i : Int) ps x fr ts ws) (n := ts.length) (p := addC ts ps out) (R := Q) (bad := ([], false))
    (fun hall => by
      refine Ev.step (fun _ => rfl) ?_
      simp only [spec_StepDown.l2, Int.toNat_natCast]
      exact ev_neg (by omega) (hE hall))
    (fun j q hj hpre hc hq => by
      have h1 := ht j hj
      have n0 : (0 : Int) ≤ (j : Int) := by omega
      have n1 : (j : Int) < (ts.length : Int) := by omega
      have n3 : (j : Int) < (ps.length : Int) := by omega
      have n2 : ri ts j < ((addA ts ps out j).length : Int) := by rw [addA_len]; exact h1.2
      have e : (((j + 1 : Nat) : Int)).toNat = j + 1 := Int.toNat_natCast _
      simp only [e] at hq
      have hw := wrap_succ hj (show ts.length ≤ 9223372036854775807 by omega)
      obtain ⟨k1, k2⟩ := key j hj hpre
      refine Ev.step (fun _ => rfl) ?_
      simp only [spec_StepDown.l2, Int.toNat_natCast, ri_rd, k1, k2, hw]
      exact ev_pos n3 (ev_pos n0 (ev_pos n1 (ev_pos h1.1 (ev_pos n2 (ev_bind0 (amt_s _) (ev_pos (decide_eq_true hc) hq)))))))
    (fun j hj hpre hc => by
      have h1 := ht j hj
      have n0 : (0 : Int) ≤ (j : Int) := by omega
      have n1 : (j : Int) < (ts.length : Int) := by omega
      have n3 : (j : Int) < (ps.length : Int) := by omega
      have n2 : ri ts j < ((addA ts ps out j).length : Int) := by rw [addA_len]; exact h1.2
      obtain ⟨k1, k2⟩ := key j hj hpre
      refine Ev.step (fun _ => rfl) ?_
      simp only [spec_StepDown.l2, Int.toNat_natCast, ri_rd, k1, k2]
      exact ev_pos n3 (ev_pos n0 (ev_pos n1 (ev_pos h1.1 (ev_pos n2 (ev_bind0 (amt_s _) (ev_neg (by simpa [addC] using hc) (ev_some _))))))))
  by_cases h : ∀ j, j < ts.length → addC ts ps out j
  · rw [if_pos h]; exact g1 h
  · rw [if_neg h]; exact g2 h
end
end Go.Proofs.Ytfkakbpjddgmeaa.PFnHandedOn
