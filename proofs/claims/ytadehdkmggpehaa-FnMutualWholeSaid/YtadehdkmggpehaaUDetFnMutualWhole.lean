import Derived.Test.YtadehdkmggpehaaUSharesEvFnMutualWhole
set_option linter.unusedVariables false
set_option linter.unusedSimpArgs false
namespace Go.Proofs.Ytadehdkmggpehaa.PFnMutualWhole
open Go Go.RowKit Go.Proofs.YtadehdkmggpehaaW.PrintWords Go.Proofs.YtadehdkmggpehaaW.PrintLast Go.Proofs.Ytadehdkmggpehaa.MapWords Go.Proofs.Ytadehdkmggpehaa.IterWords Go.Proofs.Ytadehdkmggpehaa.EvWords
open Classical
theorem mul_bd {x y a b : Int} (h1 : -a ≤ x) (h2 : x ≤ a) (h3 : -b ≤ y) (h4 : y ≤ b) : -(a * b) ≤ x * y ∧ x * y ≤ a * b := by
  have p1 : 0 ≤ (a - x) * (b + y) := Int.mul_nonneg (by omega) (by omega)
  have p2 : 0 ≤ (a + x) * (b - y) := Int.mul_nonneg (by omega) (by omega)
  have p3 : 0 ≤ (a - x) * (b - y) := Int.mul_nonneg (by omega) (by omega)
  have p4 : 0 ≤ (a + x) * (b + y) := Int.mul_nonneg (by omega) (by omega)
  simp only [Int.sub_mul, Int.mul_sub, Int.add_mul, Int.mul_add] at p1 p2 p3 p4
  omega
def d2 (a b c d : Int) : Int := a * d - b * c
theorem d2_bd {a b c d : Int} (ha : -100 ≤ a ∧ a ≤ 100) (hb : -100 ≤ b ∧ b ≤ 100) (hc : -100 ≤ c ∧ c ≤ 100) (hd : -100 ≤ d ∧ d ≤ 100) : -20000 ≤ d2 a b c d ∧ d2 a b c d ≤ 20000 := by
  have h1 := mul_bd (a := 100) (b := 100) ha.1 ha.2 hd.1 hd.2
  have h2 := mul_bd (a := 100) (b := 100) hb.1 hb.2 hc.1 hc.2
  unfold d2
  omega
def d3 (a b c d e f g h i : Int) : Int := a * d2 e f h i - b * d2 d f g i + c * d2 d e g h
section
variable {m : Nat → Int} {row : Nat} {g : B3 → Int} {cl : B3} {e c : Nat} {s sg : Int}
theorem lp_end : lp m row g cl 0 c s sg = s := rfl
theorem lp_skip (h : g3 cl c = true) : lp m row g cl (e + 1) c s sg = lp m row g cl e (c + 1) s sg := by
  simp only [lp]
  rw [if_pos h]
theorem lp_take (h : g3 cl c = false) (hs : -1000000000 ≤ s ∧ s ≤ 1000000000) (hg : sg = 1 ∨ sg = -1) (hm : -100 ≤ m (row * 3 + c) ∧ m (row * 3 + c) ≤ 100) (hd : -100000 ≤ g (s3 cl c true) ∧ g (s3 cl c true) ≤ 100000) :
    lp m row g cl (e + 1) c s sg = lp m row g cl e (c + 1) (s + sg * (m (row * 3 + c) * g (s3 cl c true))) (-sg) := by
  have hp := mul_bd (a := 100) (b := 100000) hm.1 hm.2 hd.1 hd.2
  have hw : wrap64 (-sg) = -sg := wrap_id (by omega) (by omega)
  simp only [lp]
  rw [if_neg (by rw [h]; decide), hw]
  by_cases hz : m (row * 3 + c) = 0
  · rw [if_pos hz, hz]
    simp
  · rw [if_neg hz]
    obtain rfl | rfl := hg
    · rw [Int.one_mul, Int.one_mul, wrap_id (x := m (row * 3 + c)) (by omega) (by omega), wrap_id (x := m (row * 3 + c) * g (s3 cl c true)) (by omega) (by omega), wrap_id (by omega) (by omega)]
    · rw [Int.neg_one_mul, Int.neg_one_mul, wrap_id (x := -m (row * 3 + c)) (by omega) (by omega), Int.neg_mul, wrap_id (x := -(m (row * 3 + c) * g (s3 cl c true))) (by omega) (by omega), wrap_id (by omega) (by omega)]
end
theorem one_bd {m : Nat → Int} {n r : Nat} {x : B3} : -100000 ≤ mn m n 0 r x ∧ mn m n 0 r x ≤ 100000 := by
  show -100000 ≤ (1 : Int) ∧ (1 : Int) ≤ 100000
  omega
section
variable {m : Nat → Int} (hm : ∀ j, -100 ≤ m j ∧ m j ≤ 100)
include hm
theorem mn1 : mn m 1 1 0 (false, false, false) = m 0 := by
  rw [show mn m 1 1 0 (false, false, false) = lp m 0 (mn m 1 0 1) (false, false, false) 1 0 0 1 from rfl, lp_take rfl (by omega) (.inl rfl) (hm _) one_bd, lp_end]
  show 0 + 1 * (m 0 * 1) = m 0
  omega
theorem mn2 : mn m 2 2 0 (false, false, false) = d2 (m 0) (m 1) (m 3) (m 4) := by
  have a1 : mn m 2 1 1 (true, false, false) = m 4 := by
    rw [show mn m 2 1 1 (true, false, false) = lp m 1 (mn m 2 0 2) (true, false, false) 2 0 0 1 from rfl, lp_skip rfl, lp_take rfl (by omega) (.inl rfl) (hm _) one_bd, lp_end]
    show 0 + 1 * (m 4 * 1) = m 4
    omega
  have a2 : mn m 2 1 1 (false, true, false) = m 3 := by
    rw [show mn m 2 1 1 (false, true, false) = lp m 1 (mn m 2 0 2) (false, true, false) 2 0 0 1 from rfl, lp_take rfl (by omega) (.inl rfl) (hm _) one_bd, lp_skip rfl, lp_end]
    show 0 + 1 * (m 3 * 1) = m 3
    omega
  have b0 := hm 0
  have b4 := hm 4
  have b3 := hm 3
  have p := mul_bd b0.1 b0.2 b4.1 b4.2
  rw [show mn m 2 2 0 (false, false, false) = lp m 0 (mn m 2 1 1) (false, false, false) 2 0 0 1 from rfl,
    lp_take rfl (by omega) (.inl rfl) (hm _) (by show -100000 ≤ mn m 2 1 1 (true, false, false) ∧ mn m 2 1 1 (true, false, false) ≤ 100000; rw [a1]; omega),
    lp_take rfl (by show -1000000000 ≤ 0 + 1 * (m 0 * mn m 2 1 1 (true, false, false)) ∧ 0 + 1 * (m 0 * mn m 2 1 1 (true, false, false)) ≤ 1000000000; rw [a1]; omega) (.inr rfl) (hm _) (by show -100000 ≤ mn m 2 1 1 (false, true, false) ∧ mn m 2 1 1 (false, true, false) ≤ 100000; rw [a2]; omega), lp_end]
  show 0 + 1 * (m 0 * mn m 2 1 1 (true, false, false)) + -1 * (m 1 * mn m 2 1 1 (false, true, false)) = _
  rw [a1, a2]
  unfold d2
  omega
theorem mn3 : mn m 3 3 0 (false, false, false) = d3 (m 0) (m 1) (m 2) (m 3) (m 4) (m 5) (m 6) (m 7) (m 8) := by
  have c1 : mn m 3 1 2 (true, true, false) = m 8 := by
    rw [show mn m 3 1 2 (true, true, false) = lp m 2 (mn m 3 0 3) (true, true, false) 3 0 0 1 from rfl, lp_skip rfl, lp_skip rfl, lp_take rfl (by omega) (.inl rfl) (hm _) one_bd, lp_end]
    show 0 + 1 * (m 8 * 1) = m 8
    omega
  have c2 : mn m 3 1 2 (true, false, true) = m 7 := by
    rw [show mn m 3 1 2 (true, false, true) = lp m 2 (mn m 3 0 3) (true, false, true) 3 0 0 1 from rfl, lp_skip rfl, lp_take rfl (by omega) (.inl rfl) (hm _) one_bd, lp_skip rfl, lp_end]
    show 0 + 1 * (m 7 * 1) = m 7
    omega
  have c3 : mn m 3 1 2 (false, true, true) = m 6 := by
    rw [show mn m 3 1 2 (false, true, true) = lp m 2 (mn m 3 0 3) (false, true, true) 3 0 0 1 from rfl, lp_take rfl (by omega) (.inl rfl) (hm _) one_bd, lp_skip rfl, lp_skip rfl, lp_end]
    show 0 + 1 * (m 6 * 1) = m 6
    omega
  have b0 := hm 0
  have b1 := hm 1
  have b2 := hm 2
  have b3 := hm 3
  have b4 := hm 4
  have b5 := hm 5
  have b6 := hm 6
  have b7 := hm 7
  have b8 := hm 8
  have sec : ∀ (x : B3) (i j : Nat) (p q u v : Int), (-100 ≤ p ∧ p ≤ 100) → (-100 ≤ q ∧ q ≤ 100) → (-100 ≤ u ∧ u ≤ 100) → (-100 ≤ v ∧ v ≤ 100) → (-1000000000 ≤ 0 + 1 * (p * v) ∧ 0 + 1 * (p * v) ≤ 1000000000) ∧ 0 + 1 * (p * v) + -1 * (q * u) = d2 p q u v := by
    intro x i j p q u v hp hq hu hv
    have h1 := mul_bd hp.1 hp.2 hv.1 hv.2
    unfold d2
    omega
  have a1 : mn m 3 2 1 (true, false, false) = d2 (m 4) (m 5) (m 7) (m 8) := by
    obtain ⟨k1, k2⟩ := sec (true, true, true) 0 0 _ _ _ _ b4 b5 b7 b8
    rw [show mn m 3 2 1 (true, false, false) = lp m 1 (mn m 3 1 2) (true, false, false) 3 0 0 1 from rfl, lp_skip rfl,
      lp_take rfl (by omega) (.inl rfl) (hm _) (by show -100000 ≤ mn m 3 1 2 (true, true, false) ∧ mn m 3 1 2 (true, true, false) ≤ 100000; rw [c1]; omega),
      lp_take rfl (by show -1000000000 ≤ 0 + 1 * (m 4 * mn m 3 1 2 (true, true, false)) ∧ 0 + 1 * (m 4 * mn m 3 1 2 (true, true, false)) ≤ 1000000000; rw [c1]; exact k1) (.inr rfl) (hm _) (by show -100000 ≤ mn m 3 1 2 (true, false, true) ∧ mn m 3 1 2 (true, false, true) ≤ 100000; rw [c2]; omega), lp_end]
    show 0 + 1 * (m 4 * mn m 3 1 2 (true, true, false)) + -1 * (m 5 * mn m 3 1 2 (true, false, true)) = _
    rw [c1, c2]
    exact k2
  have a2 : mn m 3 2 1 (false, true, false) = d2 (m 3) (m 5) (m 6) (m 8) := by
    obtain ⟨k1, k2⟩ := sec (true, true, true) 0 0 _ _ _ _ b3 b5 b6 b8
    rw [show mn m 3 2 1 (false, true, false) = lp m 1 (mn m 3 1 2) (false, true, false) 3 0 0 1 from rfl,
      lp_take rfl (by omega) (.inl rfl) (hm _) (by show -100000 ≤ mn m 3 1 2 (true, true, false) ∧ mn m 3 1 2 (true, true, false) ≤ 100000; rw [c1]; omega), lp_skip rfl,
      lp_take rfl (by show -1000000000 ≤ 0 + 1 * (m 3 * mn m 3 1 2 (true, true, false)) ∧ 0 + 1 * (m 3 * mn m 3 1 2 (true, true, false)) ≤ 1000000000; rw [c1]; exact k1) (.inr rfl) (hm _) (by show -100000 ≤ mn m 3 1 2 (false, true, true) ∧ mn m 3 1 2 (false, true, true) ≤ 100000; rw [c3]; omega), lp_end]
    show 0 + 1 * (m 3 * mn m 3 1 2 (true, true, false)) + -1 * (m 5 * mn m 3 1 2 (false, true, true)) = _
    rw [c1, c3]
    exact k2
  have a3 : mn m 3 2 1 (false, false, true) = d2 (m 3) (m 4) (m 6) (m 7) := by
    obtain ⟨k1, k2⟩ := sec (true, true, true) 0 0 _ _ _ _ b3 b4 b6 b7
    rw [show mn m 3 2 1 (false, false, true) = lp m 1 (mn m 3 1 2) (false, false, true) 3 0 0 1 from rfl,
      lp_take rfl (by omega) (.inl rfl) (hm _) (by show -100000 ≤ mn m 3 1 2 (true, false, true) ∧ mn m 3 1 2 (true, false, true) ≤ 100000; rw [c2]; omega),
      lp_take rfl (by show -1000000000 ≤ 0 + 1 * (m 3 * mn m 3 1 2 (true, false, true)) ∧ 0 + 1 * (m 3 * mn m 3 1 2 (true, false, true)) ≤ 1000000000; rw [c2]; exact k1) (.inr rfl) (hm _) (by show -100000 ≤ mn m 3 1 2 (false, true, true) ∧ mn m 3 1 2 (false, true, true) ≤ 100000; rw [c3]; omega), lp_skip rfl, lp_end]
    show 0 + 1 * (m 3 * mn m 3 1 2 (true, false, true)) + -1 * (m 4 * mn m 3 1 2 (false, true, true)) = _
    rw [c2, c3]
    exact k2
  have e1 := d2_bd b4 b5 b7 b8
  have e2 := d2_bd b3 b5 b6 b8
  have e3 := d2_bd b3 b4 b6 b7
  have p1 := mul_bd b0.1 b0.2 e1.1 e1.2
  have p2 := mul_bd b1.1 b1.2 e2.1 e2.2
  rw [show mn m 3 3 0 (false, false, false) = lp m 0 (mn m 3 2 1) (false, false, false) 3 0 0 1 from rfl,
    lp_take rfl (by omega) (.inl rfl) (hm _) (by show -100000 ≤ mn m 3 2 1 (true, false, false) ∧ mn m 3 2 1 (true, false, false) ≤ 100000; rw [a1]; omega),
    lp_take rfl (by show -1000000000 ≤ 0 + 1 * (m 0 * mn m 3 2 1 (true, false, false)) ∧ 0 + 1 * (m 0 * mn m 3 2 1 (true, false, false)) ≤ 1000000000; rw [a1]; omega) (.inr rfl) (hm _) (by show -100000 ≤ mn m 3 2 1 (false, true, false) ∧ mn m 3 2 1 (false, true, false) ≤ 100000; rw [a2]; omega),
    lp_take (sg := - -1) rfl (by show -1000000000 ≤ 0 + 1 * (m 0 * mn m 3 2 1 (true, false, false)) + -1 * (m 1 * mn m 3 2 1 (false, true, false)) ∧ 0 + 1 * (m 0 * mn m 3 2 1 (true, false, false)) + -1 * (m 1 * mn m 3 2 1 (false, true, false)) ≤ 1000000000; rw [a1, a2]; omega) (.inl (by decide)) (hm _) (by show -100000 ≤ mn m 3 2 1 (false, false, true) ∧ mn m 3 2 1 (false, false, true) ≤ 100000; rw [a3]; omega), lp_end]
  show 0 + 1 * (m 0 * mn m 3 2 1 (true, false, false)) + -1 * (m 1 * mn m 3 2 1 (false, true, false)) + 1 * (m 2 * mn m 3 2 1 (false, false, true)) = _
  rw [a1, a2, a3]
  unfold d3
  omega
end
def dN (n : Nat) (m : Nat → Nat → Int) : Int := match n with
  | 0 => 1
  | 1 => m 0 0
  | 2 => d2 (m 0 0) (m 0 1) (m 1 0) (m 1 1)
  | _ => d3 (m 0 0) (m 0 1) (m 0 2) (m 1 0) (m 1 1) (m 1 2) (m 2 0) (m 2 1) (m 2 2)
theorem impl_det (l : List Int) (hl : l.length = 9) (hb : ∀ j, -100 ≤ ri l j ∧ ri l j ≤ 100) (n : Nat) (hn : 1 ≤ n ∧ n ≤ 3) : impl_determinant.f l (n : Int) = some (dN n (fun a b => ri l (a * 3 + b))) := by
  unfold impl_determinant.f
  rw [if_pos ⟨hl, by omega, by omega⟩, Int.toNat_natCast]
  obtain rfl | rfl | rfl : n = 1 ∨ n = 2 ∨ n = 3 := by omega
  · exact congrArg some (mn1 (m := fun i => rd l (i : Int)) hb)
  · exact congrArg some (mn2 (m := fun i => rd l (i : Int)) hb)
  · exact congrArg some (mn3 (m := fun i => rd l (i : Int)) hb)
def cutc (c : Nat) (r : List Int) : List Int := [] ++ r.take c ++ r.drop (c + 1)
theorem det0 : Ev (fun k => spec_l7Det.f k []) 1 := Ev.step (fun _ => rfl) (by simp only [spec_l7Det.f]; exact ev_pos rfl (ev_some _))
theorem det_minor {X : List (List Int)} {s sg : Int} {c : Nat} (hl : X.length ≤ 3) (hc : c < 3) (hX : ∀ i : Nat, i < X.length → c + 1 ≤ (rd_L2 X (i : Int)).length ∧ (rd_L2 X (i : Int)).length ≤ 3) (r : Int) : ∀ (d i : Nat) (acc : List (List Int)), i + d = X.length → acc.length ≤ i →
    Ev (fun k => spec_l7Det.l1 k X s sg (c : Int) (acc ++ (X.drop i).map (cutc c)) (X.length : Int)) r → Ev (fun k => spec_l7Det.l1 k X s sg (c : Int) acc (i : Int)) r
  | 0, i, acc, hi, ha, h => by
    obtain rfl : i = X.length := by omega
    rw [List.drop_length, List.map_nil, List.append_nil] at h
    exact h
  | d + 1, i, acc, hi, ha, h => by
    have ih := det_minor (s := s) (sg := sg) hl hc hX r d (i + 1) (acc ++ [cutc c (rd_L2 X (i : Int))]) (by omega) (by simp; omega)
    obtain ⟨h1, h2⟩ := hX i (by omega)
    have hd : X.drop i = rd_L2 X (i : Int) :: X.drop (i + 1) := by
      have hlt : i < X.length := by omega
      rw [List.drop_eq_getElem_cons hlt]
      congr 1
      show _ = X.getD i _
      simp [List.getD_eq_getElem?_getD, List.getElem?_eq_getElem hlt]
    rw [hd, List.map_cons, List.append_cons] at h
    have h3 := ih h
    have e1 : wrap64 ((c : Int) + 1) = ((c + 1 : Nat) : Int) := wrap_succ hc (by omega)
    have e2 : wrap64 ((i : Int) + 1) = ((i + 1 : Nat) : Int) := wrap_succ (n := 3) (by omega) (by omega)
    refine Ev.step (fun _ => rfl) ?_
    simp only [spec_l7Det.l1, e1, e2, Int.toNat_natCast]
    have l1 : (List.take c (rd_L2 X (i : Int))).length ≤ 3 := by rw [List.length_take]; omega
    have l2 : (List.drop (c + 1) (rd_L2 X (i : Int))).length ≤ 3 := by rw [List.length_drop]; omega
    refine ev_pos (by omega) (ev_bind0 rfl (ev_pos (by omega) (ev_pos (by omega) (ev_pos (by omega) (ev_pos (by simp only [List.length_nil]; omega) (ev_bind0 rfl (ev_pos (by omega) (ev_pos (by omega) (ev_pos (by simp only [List.nil_append]; omega) (ev_pos (by omega) ?_))))))))))
    exact h3
theorem det_col {X : List (List Int)} {s sg t : Int} {c : Nat} (hl : 1 ≤ X.length ∧ X.length ≤ 3) (hc : c < X.length) (hX : ∀ i : Nat, i < X.length → (rd_L2 X (i : Int)).length = X.length) (hs : -1000000000 ≤ s ∧ s ≤ 1000000000) (hg : sg = 1 ∨ sg = -1)
    (hm : -100 ≤ ri (rd_L2 X 0) c ∧ ri (rd_L2 X 0) c ≤ 100) (ht : -100000 ≤ t ∧ t ≤ 100000) (hf : Ev (fun k => spec_l7Det.f k (X.tail.map (cutc c))) t) (r : Int)
    (h : Ev (fun k => spec_l7Det.l0 k X (s + sg * (ri (rd_L2 X 0) c * t)) (-sg) ((c + 1 : Nat) : Int)) r) : Ev (fun k => spec_l7Det.l0 k X s sg (c : Int)) r := by
  have hp := mul_bd (a := 100) (b := 100000) hm.1 hm.2 ht.1 ht.2
  have e1 : wrap64 ((c : Int) + 1) = ((c + 1 : Nat) : Int) := wrap_succ (n := 3) (by omega) (by omega)
  have e2 : wrap64 (-sg) = -sg := wrap_id (by omega) (by omega)
  have e3 : wrap64 (s + wrap64 (wrap64 (sg * ri (rd_L2 X 0) c) * t)) = s + sg * (ri (rd_L2 X 0) c * t) := by
    obtain rfl | rfl := hg
    · rw [Int.one_mul, Int.one_mul, wrap_id (x := ri (rd_L2 X 0) c) (by omega) (by omega), wrap_id (x := ri (rd_L2 X 0) c * t) (by omega) (by omega), wrap_id (by omega) (by omega)]
    · rw [Int.neg_one_mul, Int.neg_one_mul, wrap_id (x := -ri (rd_L2 X 0) c) (by omega) (by omega), Int.neg_mul, wrap_id (x := -(ri (rd_L2 X 0) c * t)) (by omega) (by omega), wrap_id (by omega) (by omega)]
  refine Ev.step (fun _ => rfl) ?_
  simp only [spec_l7Det.l0]
  refine ev_pos (by omega) ?_
  have := det_minor (X := X) (s := s) (sg := sg) (c := c) hl.2 (by omega) (fun i hi => by have := hX i hi; omega) r (X.length - 1) 1 [] (by omega) (by simp) (by
    rw [List.nil_append, List.drop_one]
    refine Ev.step (fun _ => rfl) ?_
    simp only [spec_l7Det.l1]
    refine ev_neg (by omega) (ev_pos (by omega) (ev_pos (by omega) (ev_pos (by have := hX 0 (by omega); simp only [Int.natCast_zero] at this; omega) (ev_bind hf ?_))))
    simp only [ri_rd]
    rw [e1, e2, e3]
    exact h)
  exact this
theorem det_end {X : List (List Int)} {s sg : Int} : Ev (fun k => spec_l7Det.l0 k X s sg (X.length : Int)) s := by
  refine Ev.step (fun _ => rfl) ?_
  simp only [spec_l7Det.l0]
  exact ev_neg (by omega) (ev_some _)
theorem sdet1 {a : Int} (ha : -100 ≤ a ∧ a ≤ 100) : Ev (fun k => spec_l7Det.f k [[a]]) a := by
  refine Ev.step (fun _ => rfl) ?_
  simp only [spec_l7Det.f]
  refine ev_neg (by simp) ?_
  refine det_col (X := [[a]]) (c := 0) (t := 1) (by simp) (by simp) (fun i hi => by
    obtain rfl : i = 0 := by simp at hi; omega
    rfl) (by omega) (.inl rfl) ha (by omega) det0 _ ?_
  exact ev_eq (det_end (X := [[a]])) (by show 0 + 1 * (a * 1) = a; omega)
theorem sdet2 {a b c d : Int} (ha : -100 ≤ a ∧ a ≤ 100) (hb : -100 ≤ b ∧ b ≤ 100) (hc : -100 ≤ c ∧ c ≤ 100) (hd : -100 ≤ d ∧ d ≤ 100) : Ev (fun k => spec_l7Det.f k [[a, b], [c, d]]) (d2 a b c d) := by
  have h1 := mul_bd ha.1 ha.2 hd.1 hd.2
  have hX : ∀ i : Nat, i < [[a, b], [c, d]].length → (rd_L2 [[a, b], [c, d]] (i : Int)).length = [[a, b], [c, d]].length := by
    intro i hi
    obtain rfl | rfl : i = 0 ∨ i = 1 := by simp at hi; omega
    all_goals rfl
  refine Ev.step (fun _ => rfl) ?_
  simp only [spec_l7Det.f]
  refine ev_neg (by simp) ?_
  refine det_col (X := [[a, b], [c, d]]) (c := 0) (t := d) (by simp) (by simp) hX (by omega) (.inl rfl) ha (by omega) (sdet1 hd) _ ?_
  refine det_col (X := [[a, b], [c, d]]) (c := 1) (t := c) (by simp) (by simp) hX (by show -1000000000 ≤ 0 + 1 * (a * d) ∧ 0 + 1 * (a * d) ≤ 1000000000; omega) (.inr rfl) hb (by omega) (sdet1 hc) _ ?_
  exact ev_eq (det_end (X := [[a, b], [c, d]])) (by show 0 + 1 * (a * d) + -1 * (b * c) = d2 a b c d; unfold d2; omega)
theorem sdet3 {a b c d e f g h i : Int} (ha : -100 ≤ a ∧ a ≤ 100) (hb : -100 ≤ b ∧ b ≤ 100) (hc : -100 ≤ c ∧ c ≤ 100) (hd : -100 ≤ d ∧ d ≤ 100) (he : -100 ≤ e ∧ e ≤ 100) (hf : -100 ≤ f ∧ f ≤ 100) (hg : -100 ≤ g ∧ g ≤ 100) (hh : -100 ≤ h ∧ h ≤ 100) (hi : -100 ≤ i ∧ i ≤ 100) :
    Ev (fun k => spec_l7Det.f k [[a, b, c], [d, e, f], [g, h, i]]) (d3 a b c d e f g h i) := by
  have e1 := d2_bd he hf hh hi
  have e2 := d2_bd hd hf hg hi
  have e3 := d2_bd hd he hg hh
  have p1 := mul_bd ha.1 ha.2 e1.1 e1.2
  have p2 := mul_bd hb.1 hb.2 e2.1 e2.2
  have hX : ∀ j : Nat, j < [[a, b, c], [d, e, f], [g, h, i]].length → (rd_L2 [[a, b, c], [d, e, f], [g, h, i]] (j : Int)).length = [[a, b, c], [d, e, f], [g, h, i]].length := by
    intro j hj
    obtain rfl | rfl | rfl : j = 0 ∨ j = 1 ∨ j = 2 := by simp at hj; omega
    all_goals rfl
  refine Ev.step (fun _ => rfl) ?_
  simp only [spec_l7Det.f]
  refine ev_neg (by simp) ?_
  refine det_col (X := [[a, b, c], [d, e, f], [g, h, i]]) (c := 0) (t := d2 e f h i) (by simp) (by simp) hX (by omega) (.inl rfl) ha (by omega) (sdet2 he hf hh hi) _ ?_
  refine det_col (X := [[a, b, c], [d, e, f], [g, h, i]]) (c := 1) (t := d2 d f g i) (by simp) (by simp) hX (by show -1000000000 ≤ 0 + 1 * (a * d2 e f h i) ∧ 0 + 1 * (a * d2 e f h i) ≤ 1000000000; omega) (.inr rfl) hb (by omega) (sdet2 hd hf hg hi) _ ?_
  refine det_col (X := [[a, b, c], [d, e, f], [g, h, i]]) (c := 2) (t := d2 d e g h) (by simp) (by simp) hX (by show -1000000000 ≤ 0 + 1 * (a * d2 e f h i) + -1 * (b * d2 d f g i) ∧ 0 + 1 * (a * d2 e f h i) + -1 * (b * d2 d f g i) ≤ 1000000000; omega) (.inl (by decide)) hc (by omega) (sdet2 hd he hg hh) _ ?_
  exact ev_eq (det_end (X := [[a, b, c], [d, e, f], [g, h, i]])) (by show 0 + 1 * (a * d2 e f h i) + -1 * (b * d2 d f g i) + 1 * (c * d2 d e g h) = d3 a b c d e f g h i; unfold d3; omega)
def rws (n : Nat) (m : Nat → Nat → Int) : List (List Int) := (List.range n).map (fun a => (List.range n).map (m a))
theorem spec_det (n : Nat) (hn : 1 ≤ n ∧ n ≤ 3) (m : Nat → Nat → Int) (hm : ∀ a b, -100 ≤ m a b ∧ m a b ≤ 100) : Ev (fun k => spec_l7Det.f k (rws n m)) (dN n m) := by
  obtain rfl | rfl | rfl : n = 1 ∨ n = 2 ∨ n = 3 := by omega
  · exact sdet1 (hm _ _)
  · exact sdet2 (hm _ _) (hm _ _) (hm _ _) (hm _ _)
  · exact sdet3 (hm _ _) (hm _ _) (hm _ _) (hm _ _) (hm _ _) (hm _ _) (hm _ _) (hm _ _) (hm _ _)
end Go.Proofs.Ytadehdkmggpehaa.PFnMutualWhole
