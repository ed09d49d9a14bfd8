import Derived.Test.YtfkakbpjddgmeaaHStepAllFnHandedOn
set_option linter.unusedVariables false
set_option linter.unusedSimpArgs false
namespace Go.Proofs.Ytfkakbpjddgmeaa.PFnHandedOn
open Go Go.RowKit Go.Proofs.YtfkakbpjddgmeaaW.PrintWords Go.Proofs.YtfkakbpjddgmeaaW.PrintLast Go.Proofs.Ytfkakbpjddgmeaa.MapWords Go.Proofs.Ytfkakbpjddgmeaa.IterWords Go.Proofs.Ytfkakbpjddgmeaa.EvWords
open Classical
section
variable {s : List Int} {p h : Int}
theorem d_spoil (a : Int) (l : List Int) (h0 : 0 < l.length) (hl : l.length ≤ 1000) (c : curP s p) : ∃ x p' h', spec_l1Spoil.f s p h a l = some (x, p', h') ∧ curP s p' := by
  unfold spec_l1Spoil.f
  obtain ⟨b, p1, g1, e1, c1⟩ := d_once (h := h) 40 (by omega) c
  rw [ob e1]
  by_cases hb : b = true
  · rw [if_pos hb]
    obtain ⟨x, p2, g2, e2, _, c2⟩ := d_pickInt (h := g1) l h0 hl c1
    rw [ob e2]
    exact ⟨_, _, _, rfl, c2⟩
  · rw [if_neg hb]
    exact ⟨_, _, _, rfl, c1⟩
theorem d_amount (c : curP s p) : ∃ x p' h', spec_l1DrawAmount.f s p h = some (x, p', h') ∧ curP s p' := by
  unfold spec_l1DrawAmount.f
  obtain ⟨x, p1, g1, e1, _, c1⟩ := d_below (h := h) 12 (by omega) c
  rw [ob e1]
  by_cases h0 : x = 0
  · rw [if_pos h0]
    obtain ⟨y, p2, g2, e2, _, c2⟩ := d_pickInt (h := g1) [0, 1, (-1), 100000000000, (-100000000000), 99999999999, 99, 100, 101] (by simp) (by simp) c1
    rw [ob e2]
    exact ⟨_, _, _, rfl, c2⟩
  · rw [if_neg h0]
    by_cases h1 : x = 1
    · rw [if_pos h1]
      obtain ⟨y, p2, g2, e2, _, c2⟩ := d_below (h := g1) 100000000000 (by omega) c1
      rw [ob e2]
      exact ⟨_, _, _, rfl, c2⟩
    · rw [if_neg h1]
      by_cases h2 : x = 2
      · rw [if_pos h2]
        obtain ⟨y, p2, g2, e2, _, c2⟩ := d_below (h := g1) 1000000 (by omega) c1
        rw [ob e2]
        exact ⟨_, _, _, rfl, c2⟩
      · rw [if_neg h2]
        obtain ⟨y, p2, g2, e2, _, c2⟩ := d_below (h := g1) 100000 (by omega) c1
        rw [ob e2]
        exact ⟨_, _, _, rfl, c2⟩
theorem d_factor (c : curP s p) : ∃ x p' h', spec_l1DrawFactor.f s p h = some (x, p', h') ∧ curP s p' := by
  unfold spec_l1DrawFactor.f
  obtain ⟨b, p1, g1, e1, c1⟩ := d_once (h := h) 6 (by omega) c
  rw [ob e1]
  by_cases hb : b = true
  · rw [if_pos hb]
    obtain ⟨y, p2, g2, e2, _, c2⟩ := d_pickInt (h := g1) [0, 1, 10000000, 9999999, 2, 3] (by simp) (by simp) c1
    rw [ob e2]
    exact ⟨_, _, _, rfl, c2⟩
  · rw [if_neg hb]
    obtain ⟨y, p2, g2, e2, _, c2⟩ := d_below (h := g1) 2000 (by omega) c1
    rw [ob e2]
    exact ⟨_, _, _, rfl, c2⟩
theorem wrap_pre (d : Nat) (hd : d ≤ 1000) : wrap64 (((d + 1 : Nat) : Int) - 1) = (d : Int) := by rw [wrap_id (by omega) (by omega)]; omega
theorem d_costs : ∀ (d : Nat) (acc : List Int) (p h : Int), acc.length + d ≤ 1000 → curP s p → EvP (fun k => spec_l7DrawCosts.l0 k (d : Int) acc s p h) (fun r => r.1.length = acc.length + d ∧ curP s r.2.1) := by
  intro d
  induction d with
  | zero =>
    intro acc p h hd c
    refine evp_step (fun _ => rfl) ?_
    simp only [spec_l7DrawCosts.l0]
    exact evp_neg (by omega) (evp_some ⟨rfl, c⟩)
  | succ d ih =>
    intro acc p h hd c
    obtain ⟨x, p1, g1, e1, c1⟩ := d_amount (h := h) c
    obtain ⟨y, p2, g2, e2, c2⟩ := d_spoil (h := g1) (wrap64 (Int.tdiv x 3)) [100000000000, 100000000001, (-100000000000)] (by simp) (by simp) c1
    refine evp_step (fun _ => rfl) ?_
    simp only [spec_l7DrawCosts.l0]
    rw [wrap_pre d (by omega)]
    exact evp_pos (by omega) (evp_bind0 e1 (evp_bind0 e2 (evp_pos (by omega) (evp_mono (ih _ p2 g2 (by simp; omega) c2) (fun r hr => ⟨by rw [hr.1]; simp; omega, hr.2⟩)))))
theorem d_weights : ∀ (d : Nat) (acc : List Int) (p h : Int), acc.length + d ≤ 1000 → curP s p → EvP (fun k => spec_l1DrawWeights.l0 k (d : Int) acc s p h) (fun r => r.1.length = acc.length + d ∧ curP s r.2.1) := by
  intro d
  induction d with
  | zero =>
    intro acc p h hd c
    refine evp_step (fun _ => rfl) ?_
    simp only [spec_l1DrawWeights.l0]
    exact evp_neg (by omega) (evp_some ⟨rfl, c⟩)
  | succ d ih =>
    intro acc p h hd c
    obtain ⟨x, p1, g1, e1, _, c1⟩ := d_below (h := h) 20 (by omega) c
    obtain ⟨b, p2, g2, e2, c2⟩ := d_once (h := g1) 8 (by omega) c1
    have more : ∀ (w p h : Int), curP s p → EvP (fun k => spec_l1DrawWeights.l0 k (d : Int) (acc ++ [w]) s p h) (fun r => r.1.length = acc.length + (d + 1) ∧ curP s r.2.1) := fun w p h c => evp_mono (ih (acc ++ [w]) p h (by simp; omega) c) (fun r hr => ⟨by rw [hr.1]; simp; omega, hr.2⟩)
    refine evp_step (fun _ => rfl) ?_
    simp only [spec_l1DrawWeights.l0]
    rw [wrap_pre d (by omega)]
    refine evp_pos (by omega) (evp_bind0 e1 (evp_bind0 e2 ?_))
    by_cases hb : b = true
    · obtain ⟨y, p3, g3, e3, c3⟩ := d_factor (h := g2) c2
      obtain ⟨z, p4, g4, e4, c4⟩ := d_spoil (h := g3) y [y, y, y, (-1), 10000001] (by simp) (by simp) c3
      exact evp_pos hb (evp_bind0 e3 (evp_bind0 e4 (evp_pos (by omega) (more _ _ _ c4))))
    · obtain ⟨z, p4, g4, e4, c4⟩ := d_spoil (h := g2) x [x, x, x, (-1), 10000001] (by simp) (by simp) c2
      exact evp_neg hb (evp_bind0 e4 (evp_pos (by omega) (more _ _ _ c4)))
def okR (y : Rul) : Prop := 1 ≤ y.f1.length ∧ y.f1.length ≤ 20 ∧ y.f2.length ≤ 20
def okQ (r : List Int × List Rul) : Prop := r.1.length ≤ 100 ∧ r.2.length ≤ 100 ∧ ∀ y ∈ r.2, y.f1.length ≤ 21 ∧ y.f2.length ≤ 21
theorem mem_set3 {l : List Rul} {i : Nat} {a : Rul} {P : Rul → Prop} (h : ∀ x ∈ l, P x) (ha : P a) : ∀ x ∈ l.set i a, P x := fun x hx => by
  rcases List.mem_or_eq_of_mem_set hx with h2 | h2
  · exact h x h2
  · rw [h2]; exact ha
theorem ru_set (l : List Rul) (i : Nat) (a : Rul) (hi : i < l.length) : ru (l.set i a) i = a := by
  unfold ru
  rw [List.getD_eq_getElem?_getD, List.getElem?_set_self hi]
  rfl
theorem ds_l1 {Q : List Int × List Rul → Prop} (n : Nat) (hn : n ≤ 8) (costs : List Int) (F : List Rul) (x8 fr : Int) (hF : F.length ≤ 100)
    (hE : ∀ (y : Rul) (p h : Int), okR y → curP s p → EvP (fun k => spec_DrawStepDown.l0 k (n : Int) costs (F ++ [y]) (wrap64 (x8 - 1)) s p h) Q) :
    ∀ (d t : Nat) (acc : List Int) (p h : Int), t + d = n → (1 ≤ acc.length ∨ 1 ≤ d) → acc.length + d ≤ 20 → curP s p → EvP (fun k => spec_DrawStepDown.l1 k (n : Int) costs F x8 (t : Int) s p h fr acc) Q := by
  intro d
  induction d with
  | zero =>
    intro t acc p h ht h1 ha c
    refine evp_step (fun _ => rfl) ?_
    simp only [spec_DrawStepDown.l1]
    have hw := d_weights (s := s) acc.length [] p h (by simp; omega) c
    refine evp_neg (by omega) (evp_bind (Q := fun r => r.1.length = acc.length ∧ curP s r.2.1) ?_ (fun a hq => ?_))
    · unfold spec_l1DrawWeights.f
      exact evp_mono hw (fun r hr => ⟨by rw [hr.1]; simp, hr.2⟩)
    · obtain ⟨q1, q2⟩ := hq
      obtain ⟨x, p2, g2, e2, _, c2⟩ := d_below (h := a.2.2) 9 (by omega) q2
      refine evp_pos (by omega) (evp_pos (by omega) (evp_bind0 e2 (evp_pos (by omega) (hE _ _ _ ⟨?_, ?_, ?_⟩ c2))))
      · show 1 ≤ acc.length; omega
      · show acc.length ≤ 20; omega
      · show (a.1.set _ _).length ≤ 20; rw [List.length_set]; omega
  | succ d ih =>
    intro t acc p h ht h1 ha c
    obtain ⟨b, p1, g1, e1, c1⟩ := d_once (h := h) 4 (by omega) c
    have hw : wrap64 ((t : Int) + 1) = ((t + 1 : Nat) : Int) := by rw [wrap_id (by omega) (by omega)]; omega
    refine evp_step (fun _ => rfl) ?_
    simp only [spec_DrawStepDown.l1, hw]
    have app : EvP (fun k => spec_DrawStepDown.l1 k (n : Int) costs F x8 ((t + 1 : Nat) : Int) s p1 g1 fr (acc ++ [(t : Int)])) Q := ih (t + 1) _ _ _ (by omega) (.inl (by simp)) (by simp; omega) c1
    refine evp_pos (by omega) (evp_bind0 e1 ?_)
    by_cases hb : b = true
    · refine evp_pos hb ?_
      by_cases h0 : (acc.length : Int) = 0
      · exact evp_pos h0 (evp_pos (by omega) app)
      · exact evp_neg h0 (ih (t + 1) _ _ _ (by omega) (.inl (by omega)) (by omega) c1)
    · exact evp_neg hb (evp_pos (by omega) app)
theorem ds_j2 (n : Nat) (hn : n ≤ 8) (costs : List Int) (hc : costs.length ≤ 100) (F : List Rul) (hF : F.length ≤ 100) (hok : ∀ y ∈ F, okR y) (b : Bool) (hb : b = true → 1 ≤ F.length) (p h : Int) (c : curP s p) :
    EvP (fun k => spec_DrawStepDown.j2 k (n : Int) costs F b s p h) okQ := by
  have hF3 : ∀ y ∈ F, y.f1.length ≤ 21 ∧ y.f2.length ≤ 21 := fun y hy => by have := hok y hy; unfold okR at this; omega
  refine evp_step (fun _ => rfl) ?_
  simp only [spec_DrawStepDown.j2, ru_rd]
  by_cases hbt : b = true
  · have h1 := hb hbt
    obtain ⟨i, p2, g2, e2, b2, c2⟩ := d_below (h := h) (F.length : Int) (by omega) c
    have b3 := b2.2 (by omega)
    obtain ⟨q, p3, g3, e3, b4, c3⟩ := d_below (h := g2) 5 (by omega) c2
    obtain ⟨m, rfl⟩ := Int.eq_ofNat_of_zero_le b2.1
    have hm : m < F.length := by omega
    have hx : okR (ru F m) := hok _ (mem_rd hm)
    obtain ⟨x1, x2, x3⟩ := hx
    have i1 : (0 : Int) ≤ ((m : Nat) : Int) := by omega
    have i2 : ((m : Nat) : Int) < (F.length : Int) := by omega
    have i3 : (1 : Int) ≤ ((ru F m).f1.length : Int) := by omega
    have i4 : (0 : Int) < ((ru F m).f1.length : Int) := by omega
    have hset : ∀ (y : Rul), (y.f1.length ≤ 21 ∧ y.f2.length ≤ 21) → EvP (fun _ : Nat => some (costs, F.set ((m : Nat) : Int).toNat y)) okQ := fun y hy => evp_some ⟨hc, by show (F.set _ y).length ≤ 100; rw [List.length_set]; exact hF, mem_set3 hF3 hy⟩
    have hset2 : ∀ (y z : Rul), (y.f1.length ≤ 21 ∧ y.f2.length ≤ 21) → (z.f1.length ≤ 21 ∧ z.f2.length ≤ 21) → EvP (fun _ : Nat => some (costs, (F.set ((m : Nat) : Int).toNat y).set ((m : Nat) : Int).toNat z)) okQ := fun y z hy hz => evp_some ⟨hc, by show ((F.set _ y).set _ z).length ≤ 100; rw [List.length_set, List.length_set]; exact hF, mem_set3 (mem_set3 hF3 hy) hz⟩
    have hru : ∀ y : Rul, ru (F.set ((m : Nat) : Int).toNat y) m = y := fun y => by rw [Int.toNat_natCast]; exact ru_set F m y hm
    refine evp_pos hbt (evp_bind0 e2 (evp_bind0 e3 ?_))
    by_cases h0 : q = 0
    · obtain ⟨v, p4, g4, e4, _, c4⟩ := d_pickInt (h := g3) [(-1), (n : Int), 0, wrap64 ((n : Int) - 1)] (by simp) (by simp) c3
      exact evp_pos h0 (evp_bind0 e4 (evp_pos i1 (evp_pos i2 (hset ⟨_, _, _⟩ ⟨by show (ru F m).f1.length ≤ 21; omega, by show (ru F m).f2.length ≤ 21; omega⟩))))
    · refine evp_neg h0 ?_
      by_cases h1 : q = 1
      · have w1 : (ru F m).f1.length < 17592186044416 := by omega
        refine evp_pos h1 (evp_pos i1 (evp_pos i2 (evp_pos w1 (evp_bind0 rfl (evp_pos ?_ (hset2 ⟨_, _, _⟩ ⟨_, _, _⟩ ?_ ?_))))))
        · show (ru (F.set _ _) m).f2.length < 17592186044416
          rw [hru]
          show (ru F m).f2.length < 17592186044416
          omega
        · exact ⟨by show ((ru F m).f1 ++ [0]).length ≤ 21; simp; omega, by show (ru F m).f2.length ≤ 21; omega⟩
        · refine ⟨?_, ?_⟩
          · show (ru (F.set _ _) m).f1.length ≤ 21
            rw [hru]
            show ((ru F m).f1 ++ [0]).length ≤ 21
            simp; omega
          · show ((ru (F.set _ _) m).f2 ++ [1]).length ≤ 21
            rw [hru]
            show ((ru F m).f2 ++ [1]).length ≤ 21
            simp; omega
      · refine evp_neg h1 ?_
        by_cases h2 : q = 2
        · exact evp_pos h2 (evp_pos i1 (evp_pos i2 (evp_pos i3 (hset ⟨_, _, _⟩ ⟨by show ((ru F m).f1.drop 1).length ≤ 21; rw [List.length_drop]; omega, by show (ru F m).f2.length ≤ 21; omega⟩))))
        · refine evp_neg h2 ?_
          by_cases h3 : q = 3
          · obtain ⟨v, p4, g4, e4, _, c4⟩ := d_pickInt (h := g3) [(-1), (n : Int), wrap64 ((n : Int) - 1)] (by simp) (by simp) c3
            exact evp_pos h3 (evp_pos i1 (evp_pos i2 (evp_bind0 e4 (evp_pos i4 (hset ⟨_, _, _⟩ ⟨by show ((ru F m).f1.set _ _).length ≤ 21; rw [List.length_set]; omega, by show (ru F m).f2.length ≤ 21; omega⟩)))))
          · refine evp_neg h3 ?_
            by_cases h4 : q = 4
            · refine evp_pos h4 (evp_pos i1 (evp_pos i2 (evp_bind0 rfl (hset2 ⟨_, _, _⟩ ⟨_, _, _⟩ ⟨by simp, by show (ru F m).f2.length ≤ 21; omega⟩ ⟨?_, by simp⟩))))
              show (ru (F.set _ _) m).f1.length ≤ 21
              rw [hru]
              simp
            · exact evp_neg h4 (evp_some ⟨hc, hF, hF3⟩)
  · exact evp_neg hbt (evp_some ⟨hc, hF, hF3⟩)
theorem ds_l0 (n : Nat) (hn : n ≤ 8) (costs : List Int) (hc : costs.length ≤ 100) : ∀ (d : Nat) (F : List Rul) (p h : Int), F.length + d + 1 ≤ n → (∀ y ∈ F, okR y) → curP s p → EvP (fun k => spec_DrawStepDown.l0 k (n : Int) costs F (d : Int) s p h) okQ := by
  intro d
  induction d with
  | zero =>
    intro F p h hl hok c
    obtain ⟨b, p1, g1, e1, c1⟩ := d_once (h := h) 12 (by omega) c
    refine evp_step (fun _ => rfl) ?_
    simp only [spec_DrawStepDown.l0]
    refine evp_neg (by omega) (evp_bind0 e1 ?_)
    by_cases hb : b = true
    · exact evp_pos hb (ds_j2 n hn costs hc F (by omega) hok _ (fun h => by have := of_decide_eq_true h; omega) _ _ c1)
    · exact evp_neg hb (ds_j2 n hn costs hc F (by omega) hok _ (fun h => by cases h) _ _ c1)
  | succ d ih =>
    intro F p h hl hok c
    have hw : wrap64 ((F.length : Int) + 1) = ((F.length + 1 : Nat) : Int) := by rw [wrap_id (by omega) (by omega)]; omega
    refine evp_step (fun _ => rfl) ?_
    simp only [spec_DrawStepDown.l0, hw]
    refine evp_pos (by omega) (ds_l1 n hn costs F _ _ (by omega) (fun y p h hy c => ?_) (n - (F.length + 1)) (F.length + 1) [] p h (by omega) (.inr (by omega)) (by simp; omega) c)
    rw [wrap_pre d (by omega)]
    refine ih (F ++ [y]) p h (by simp; omega) (fun z hz => ?_) c
    rcases List.mem_append.1 hz with h2 | h2
    · exact hok z h2
    · rw [List.mem_singleton.1 h2]; exact hy
end
theorem d_size (l : List Int) (hl : l.length ≤ 1048576) : ∃ t, spec_l1Size.f l 7 = some t ∧ 2 ≤ t ∧ t ≤ 7 := by
  unfold spec_l1Size.f
  have e : wrap64 (2 + wrap64 ((l.length : Int) / 20)) = 2 + (l.length : Int) / 20 := by rw [wrap_id (x := (l.length : Int) / 20) (by omega) (by omega), wrap_id (by omega) (by omega)]
  rw [e]
  by_cases h : 2 + (l.length : Int) / 20 > 7
  · rw [if_pos h]; exact ⟨_, rfl, by omega, by omega⟩
  · rw [if_neg h]; exact ⟨_, rfl, by omega, by omega⟩
theorem drawStep (l : List Int) (hl : l.length ≤ 1048576) : EvP (fun k => spec_DrawStepDown.f k l) okQ := by
  unfold spec_DrawStepDown.f
  obtain ⟨t, e0, t1, t2⟩ := d_size l hl
  refine evp_bind (d_new l hl) (fun a ha => evp_bind0 e0 ?_)
  obtain ⟨ha1, ha2⟩ := ha
  rw [ha1]
  obtain ⟨x, p1, g1, e1, b1, c1⟩ := d_below (h := a.2.2) t (by omega) ha2
  have b2 := b1.2 (by omega)
  obtain ⟨n, hn⟩ : ∃ n : Nat, wrap64 (2 + x) = (n : Int) := ⟨(2 + x).toNat, by rw [wrap_id (by omega) (by omega)]; omega⟩
  have hn2 : 2 ≤ n ∧ n ≤ 8 := by rw [wrap_id (by omega) (by omega)] at hn; omega
  refine evp_bind0 e1 ?_
  show EvP (fun k => (spec_l7DrawCosts.f k l p1 g1 (wrap64 (2 + x))).bind fun bt216 => (spec_l1Below.f l bt216.2.1 bt216.2.2 (wrap64 (2 + x))).bind fun bt224 => spec_DrawStepDown.l0 k (wrap64 (2 + x)) bt216.1 [] bt224.1 l bt224.2.1 bt224.2.2) okQ
  rw [hn]
  refine evp_bind (Q := fun r => r.1.length = n ∧ curP l r.2.1) ?_ (fun r hr => ?_)
  · unfold spec_l7DrawCosts.f
    exact evp_mono (d_costs n [] p1 g1 (by simp; omega) c1) (fun r hr => ⟨by rw [hr.1]; simp, hr.2⟩)
  · obtain ⟨y, p2, g2, e2, b3, c2⟩ := d_below (h := r.2.2) (n : Int) (by omega) hr.2
    have b4 := b3.2 (by omega)
    obtain ⟨m, rfl⟩ := Int.eq_ofNat_of_zero_le b3.1
    exact evp_bind0 e2 (ds_l0 n hn2.2 r.1 (by omega) m [] p2 g2 (by simp; omega) (by simp) c2)
end Go.Proofs.Ytfkakbpjddgmeaa.PFnHandedOn
