import Derived.Test.YtfkakbpjddgmeaaFLinesFnFlowBack
set_option linter.unusedVariables false
set_option linter.unusedSimpArgs false
namespace Go.Proofs.Ytfkakbpjddgmeaa.PFnFlowBack
open Go Go.RowKit Go.Proofs.YtfkakbpjddgmeaaW.PrintWords Go.Proofs.YtfkakbpjddgmeaaW.PrintLast Go.Proofs.Ytfkakbpjddgmeaa.MapWords Go.Proofs.Ytfkakbpjddgmeaa.IterWords Go.Proofs.Ytfkakbpjddgmeaa.EvWords
open Classical
def isD (c : UInt8) : Prop := 48 ≤ c.toNat ∧ c.toNat ≤ 57
def val (v : Nat) : List UInt8 → Nat
  | [] => v
  | c :: r => val (v * 10 + (c.toNat - 48)) r
theorem val_app : ∀ (a b : List UInt8) (v : Nat), val v (a ++ b) = val (val v a) b := by
  intro a
  induction a with
  | nil => intro b v; rfl
  | cons c a ih => intro b v; exact ih b _
theorem dgt_isD {d : Nat} (h : d < 10) : isD (dgt d) := by unfold isD; rw [dgt_toNat h]; omega
theorem dgt_val {d v : Nat} (h : d < 10) : val v [dgt d] = v * 10 + d := by
  show v * 10 + ((dgt d).toNat - 48) = _
  rw [dgt_toNat h]; omega
theorem decz_isD : ∀ n : Nat, ∀ c ∈ decz n, isD c := by
  intro n
  induction n using Nat.strongRecOn with
  | _ n ih =>
    intro c hc
    by_cases h : n = 0
    · rw [h, decz_zero] at hc; cases hc
    · rw [decz_pos h] at hc
      rcases List.mem_append.1 hc with hc | hc
      · exact ih (n / 10) (by omega) c hc
      · rw [List.mem_singleton.1 hc]; exact dgt_isD (by omega)
theorem dec_isD (n : Nat) : ∀ c ∈ dec n, isD c := by
  intro c hc
  rcases List.mem_append.1 hc with hc | hc
  · exact decz_isD _ c hc
  · rw [List.mem_singleton.1 hc]; exact dgt_isD (by omega)
theorem decz_val : ∀ n : Nat, val 0 (decz n) = n := by
  intro n
  induction n using Nat.strongRecOn with
  | _ n ih =>
    by_cases h : n = 0
    · rw [h, decz_zero]; rfl
    · rw [decz_pos h]
      unfold dec
      rw [val_app, ih (n / 10) (by omega), dgt_val (by omega)]
      omega
theorem dec_val (n : Nat) : val 0 (dec n) = n := by
  unfold dec
  rw [val_app, decz_val, dgt_val (by omega)]
  omega
theorem decz_head : ∀ n : Nat, ∀ c r, decz n = c :: r → c ≠ 48 := by
  intro n
  induction n using Nat.strongRecOn with
  | _ n ih =>
    intro c r he
    by_cases h : n = 0
    · rw [h, decz_zero] at he; cases he
    · rw [decz_pos h] at he
      unfold dec at he
      by_cases h1 : n / 10 = 0
      · rw [h1, decz_zero] at he
        injection he with he _
        rw [← he]
        intro e
        have := congrArg UInt8.toNat e
        rw [dgt_toNat (by omega)] at this
        have h5 : (48 : UInt8).toNat = 48 := rfl
        omega
      · rw [decz_pos h1] at he
        cases hd : dec (n / 10) with
        | nil => have := dec_pos (n / 10); rw [hd] at this; simp at this
        | cons c' r' =>
          rw [hd] at he
          injection he with he _
          rw [← he]
          exact ih (n / 10) (by omega) c' r' (by rw [decz_pos h1, hd])
section
variable {s : ByteArray} {a v : Int} {j : Nat} {R : Int × Int}
theorem d_end (h : ¬ ((j : Int) < (s.size : Int) ∧ bt s (j : Int) ≥ 48 ∧ bt s (j : Int) ≤ 57)) : Ev (fun k => impl_digits.l0 k s a v (j : Int)) (v, (j : Int)) := by
  have hj : ∀ b : Bool, b = false → Ev (fun k => impl_digits.j1 k s a v (j : Int) b) (v, (j : Int)) := by
    intro b hb
    refine Ev.step (fun _ => rfl) ?_
    simp only [impl_digits.j1]
    exact ev_neg (by simp [hb]) (ev_some _)
  refine Ev.step (fun _ => rfl) ?_
  simp only [impl_digits.l0]
  by_cases h1 : (j : Int) < (s.size : Int)
  · refine ev_pos h1 (ev_pos (by omega) ?_)
    by_cases h2 : bt s (j : Int) ≥ 48
    · refine ev_pos h2 (hj _ ?_)
      rw [decide_eq_false_iff_not]
      exact fun h3 => h ⟨h1, h2, h3⟩
    · exact ev_neg h2 (hj _ rfl)
  · exact ev_neg h1 (hj _ rfl)
theorem d_go (h1 : (j : Int) < (s.size : Int)) (h2 : bt s (j : Int) ≥ 48) (h3 : bt s (j : Int) ≤ 57) (hs : s.size ≤ 4000) (ha : 0 ≤ a ∧ a ≤ j) (hv : 0 ≤ v ∧ v ≤ 10000000000000000)
    (h : Ev (fun k => impl_digits.l0 k s a (if (j : Int) - a < 16 then v * 10 + (bt s (j : Int) - 48) else v) ((j + 1 : Nat) : Int)) R) : Ev (fun k => impl_digits.l0 k s a v (j : Int)) R := by
  have hj : ∀ b : Bool, b = true → Ev (fun k => impl_digits.j1 k s a v (j : Int) b) R := by
    intro b hb
    refine Ev.step (fun _ => rfl) ?_
    simp only [impl_digits.j1]
    refine ev_pos hb ?_
    have w1 : wrap64 ((j : Int) - a) = (j : Int) - a := wrap_id (by omega) (by omega)
    have w2 : wrap64 ((j : Int) + 1) = ((j + 1 : Nat) : Int) := by rw [wrap_id (by omega) (by omega)]; omega
    rw [w1, w2]
    by_cases h5 : (j : Int) - a < 16
    · rw [if_pos h5] at h
      refine ev_pos h5 (ev_pos (by omega) (ev_pos h1 ?_))
      have w3 : wrap64 (v * 10) = v * 10 := wrap_id (by omega) (by omega)
      have w4 : (bt s (j : Int) - 48) % 256 = bt s (j : Int) - 48 := by omega
      have w5 : wrap64 (v * 10 + (bt s (j : Int) - 48)) = v * 10 + (bt s (j : Int) - 48) := wrap_id (by omega) (by omega)
      rw [w3, w4, w5]
      exact h
    · rw [if_neg h5] at h
      exact ev_neg h5 h
  refine Ev.step (fun _ => rfl) ?_
  simp only [impl_digits.l0]
  refine ev_pos h1 (ev_pos (by omega) (ev_pos h2 (hj _ ?_)))
  rw [decide_eq_true_eq]
  exact h3
end
theorem pow16 {n : Nat} (h : n ≤ 16) : 10 ^ n ≤ 10000000000000000 := by
  have : (10 : Nat) ^ n ≤ 10 ^ 16 := Nat.pow_le_pow_right (by omega) h
  simpa using this
theorem dig_run (l pre : List UInt8) (hl : l.length ≤ 4000) : ∀ (ds done t : List UInt8) (v : Nat), l = pre ++ done ++ ds ++ t → (∀ c ∈ ds, isD c) → (∀ c r, t = c :: r → ¬ isD c) → (done.length ≤ 16 → v < 10 ^ done.length) → v ≤ 10000000000000000 →
    EvP (fun k => impl_digits.l0 k (B l) ((pre.length : Nat) : Int) (v : Int) (((pre ++ done).length : Nat) : Int)) (fun r => r.2 = ((pre.length + done.length + ds.length : Nat) : Int) ∧ ∃ u : Nat, r.1 = (u : Int) ∧ u ≤ 10000000000000000 ∧ (done.length + ds.length ≤ 16 → u = val v ds)) := by
  intro ds
  induction ds with
  | nil =>
    intro done t v he _ ht hv1 hv
    have hpl : (pre ++ done).length = pre.length + done.length := List.length_append
    refine ⟨_, d_end ?_, by simp only [List.length_nil]; omega, v, rfl, hv, fun _ => rfl⟩
    rintro ⟨h1, h2, h3⟩
    rw [List.append_nil] at he
    cases t with
    | nil =>
      rw [List.append_nil] at he
      rw [B_size, he] at h1
      omega
    | cons c r =>
      rw [he, bt_mid] at h2 h3
      exact ht c r rfl ⟨by omega, by omega⟩
  | cons c ds ih =>
    intro done t v he hd ht hv1 hv
    have he' : l = (pre ++ done) ++ c :: (ds ++ t) := by rw [he]; simp
    have hb : bt (B l) (((pre ++ done).length : Nat) : Int) = (c.toNat : Int) := by rw [he']; exact bt_mid _ _ _
    have hc : isD c := hd c (by simp)
    unfold isD at hc
    have hpl : (pre ++ done).length = pre.length + done.length := List.length_append
    have hz : (pre ++ done).length < (B l).size := by rw [B_size, he']; simp only [List.length_append, List.length_cons]; omega
    have hs : (B l).size ≤ 4000 := hl
    have e1 : (pre ++ (done ++ [c])).length = (pre ++ done).length + 1 := by rw [← List.append_assoc, List.length_append]; rfl
    have e2 : (done ++ [c]).length = done.length + 1 := by rw [List.length_append]; rfl
    have ih' := ih (done ++ [c]) t (if done.length < 16 then v * 10 + (c.toNat - 48) else v) (by rw [he]; simp) (fun x hx => hd x (by simp [hx])) ht ?_ ?_
    · rw [e1] at ih'
      obtain ⟨r, h1, h2, u, h3, h4, h5⟩ := ih'
      refine ⟨r, ?_, ?_, u, h3, h4, ?_⟩
      · generalize B l = s at *
        refine d_go (by omega) (by rw [hb]; omega) (by rw [hb]; omega) hs (by omega) (by omega) ?_
        rw [hb]
        have e3 : (if (((pre ++ done).length : Nat) : Int) - ((pre.length : Nat) : Int) < 16 then (v : Int) * 10 + ((c.toNat : Int) - 48) else (v : Int)) = ((if done.length < 16 then v * 10 + (c.toNat - 48) else v : Nat) : Int) := by
          by_cases h7 : done.length < 16
          · rw [if_pos h7, if_pos (by omega)]; omega
          · rw [if_neg h7, if_neg (by omega)]
        rw [e3]
        exact h1
      · rw [h2, e2]; simp only [List.length_cons]; omega
      · intro h7
        simp only [List.length_cons] at h7
        rw [h5 (by rw [e2]; omega), if_pos (by omega)]
        rfl
    · intro h7
      rw [e2] at h7
      have := hv1 (by omega)
      rw [if_pos (by omega), e2, Nat.pow_succ]
      omega
    · by_cases h7 : done.length < 16
      · rw [if_pos h7]
        have h8 := hv1 (by omega)
        have h9 : (10 : Nat) ^ (done.length + 1) ≤ 10000000000000000 := pow16 (by omega)
        rw [Nat.pow_succ] at h9
        omega
      · rw [if_neg h7]; exact hv
theorem digRun (l pre ds t : List UInt8) (hl : l.length ≤ 4000) (he : l = pre ++ ds ++ t) (hd : ∀ c ∈ ds, isD c) (ht : ∀ c r, t = c :: r → ¬ isD c) :
    EvP (fun k => impl_digits.f k (B l) ((pre.length : Nat) : Int)) (fun r => r.2 = ((pre.length + ds.length : Nat) : Int) ∧ ∃ u : Nat, r.1 = (u : Int) ∧ u ≤ 10000000000000000 ∧ (ds.length ≤ 16 → u = val 0 ds)) := by
  have h := dig_run l pre hl ds [] t 0 (by rw [List.append_nil]; exact he) hd ht (by simp) (by omega)
  rw [List.append_nil] at h
  unfold impl_digits.f
  refine evp_mono h (fun r hr => ?_)
  simpa using hr
theorem runs (t : List UInt8) : ∃ ds u, t = ds ++ u ∧ (∀ c ∈ ds, isD c) ∧ ∀ c r, u = c :: r → ¬ isD c := by
  induction t with
  | nil => exact ⟨[], [], rfl, by simp, fun c r h => by cases h⟩
  | cons c t ih =>
    by_cases h : isD c
    · obtain ⟨ds, u, h1, h2, h3⟩ := ih
      refine ⟨c :: ds, u, by rw [h1]; rfl, fun x hx => ?_, h3⟩
      rcases List.mem_cons.1 hx with rfl | hx
      · exact h
      · exact h2 x hx
    · exact ⟨[], c :: t, rfl, by simp, fun x r hx => by injection hx with hx _; rw [← hx]; exact h⟩
def finM (sg : Int) (n : Nat) : Int × Bool := if n > 100000000000 ∨ (n = 0 ∧ sg < 0) then (0, false) else (sg * n, true)
def okM (r : Int × Bool) : Prop := r.2 = true → -100000000000 ≤ r.1 ∧ r.1 ≤ 100000000000
theorem finM_ok {sg : Int} {n : Nat} (hs : sg = 1 ∨ sg = -1) : okM (finM sg n) := by
  unfold finM okM
  by_cases h : n > 100000000000 ∨ (n = 0 ∧ sg < 0)
  · rw [if_pos h]; intro e; cases e
  · rw [if_neg h]
    intro _
    show -100000000000 ≤ sg * n ∧ sg * n ≤ 100000000000
    rcases hs with rfl | rfl <;> omega
theorem m_end {sg : Int} {n : Nat} (hs : sg = 1 ∨ sg = -1) : Ev (fun k => impl_ReadMoney.l1 k 2 sg (n : Int) 2) (finM sg n) := by
  refine Ev.step (fun _ => rfl) ?_
  simp only [impl_ReadMoney.l1]
  refine ev_neg (by omega) ?_
  unfold finM
  by_cases h : n > 100000000000
  · rw [if_pos (Or.inl h)]
    exact ev_pos (by omega) (ev_some _)
  · refine ev_neg (by omega) ?_
    have hw : wrap64 (sg * (n : Int)) = sg * n := by rcases hs with rfl | rfl <;> exact wrap_id (by omega) (by omega)
    rw [hw]
    by_cases h0 : n = 0
    · refine ev_pos (by omega) ?_
      by_cases h1 : sg < 0
      · rw [if_pos (Or.inr ⟨h0, h1⟩)]
        exact ev_pos h1 (ev_some _)
      · rw [if_neg (show ¬ (n > 100000000000 ∨ (n = 0 ∧ sg < 0)) by omega)]
        exact ev_neg h1 (ev_some _)
    · rw [if_neg (show ¬ (n > 100000000000 ∨ (n = 0 ∧ sg < 0)) by omega)]
      exact ev_neg (by omega) (ev_some _)
theorem m_l1 {sg : Int} (hs : sg = 1 ∨ sg = -1) : ∀ (d : Nat) (c n : Nat), c + d = 2 → n * 10 ^ d ≤ 1000000000000000000 → Ev (fun k => impl_ReadMoney.l1 k 2 sg (n : Int) (c : Int)) (finM sg (n * 10 ^ d)) := by
  intro d
  induction d with
  | zero =>
    intro c n hc hn
    have : c = 2 := by omega
    subst this
    rw [Nat.pow_zero, Nat.mul_one]
    exact m_end hs
  | succ d ih =>
    intro c n hc hn
    have hp : 0 < 10 ^ d := Nat.pow_pos (by omega)
    have hq : n * 10 * 10 ^ d = n * 10 ^ (d + 1) := by rw [Nat.pow_succ]; rw [Nat.mul_assoc, Nat.mul_comm 10]
    have hn2 : n * 10 ≤ 1000000000000000000 := Nat.le_trans (Nat.le_mul_of_pos_right _ hp) (by rw [hq]; exact hn)
    refine Ev.step (fun _ => rfl) ?_
    simp only [impl_ReadMoney.l1]
    refine ev_pos (by omega) ?_
    have w1 : wrap64 ((n : Int) * 10) = ((n * 10 : Nat) : Int) := by rw [wrap_id (by omega) (by omega)]; omega
    have w2 : wrap64 ((c : Int) + 1) = ((c + 1 : Nat) : Int) := by rw [wrap_id (by omega) (by omega)]; omega
    rw [w1, w2, ← hq]
    exact ih (c + 1) (n * 10) (by omega) (by rw [hq]; exact hn)
theorem m_j6 {sg : Int} (hs : sg = 1 ∨ sg = -1) (c n : Nat) (hc : c ≤ 2) (hn : n * 10 ^ (2 - c) ≤ 1000000000000000000) : Ev (fun k => impl_ReadMoney.j6 k 2 sg (n : Int) (c : Int)) (finM sg (n * 10 ^ (2 - c))) := by
  refine Ev.step (fun _ => rfl) ?_
  simp only [impl_ReadMoney.j6]
  exact m_l1 hs (2 - c) c n (by omega) hn
theorem m_l0 {sg : Int} (hs : sg = 1 ∨ sg = -1) (c m : Nat) (hc : c ≤ 2) (hm : m ≤ 1000) : ∀ (d i n : Nat), i + d = c → n * 10 ^ d ≤ 100000000000000 → Ev (fun k => impl_ReadMoney.l0 k 2 sg (n : Int) (c : Int) (m : Int) (i : Int)) (finM sg ((n * 10 ^ d + m) * 10 ^ (2 - c))) := by
  intro d
  induction d with
  | zero =>
    intro i n hi hn
    have : i = c := by omega
    subst this
    rw [Nat.pow_zero, Nat.mul_one] at hn ⊢
    refine Ev.step (fun _ => rfl) ?_
    simp only [impl_ReadMoney.l0]
    refine ev_neg (by omega) ?_
    have w1 : wrap64 ((n : Int) + (m : Int)) = ((n + m : Nat) : Int) := by rw [wrap_id (by omega) (by omega)]; omega
    rw [w1]
    refine m_j6 hs i (n + m) hc ?_
    have : 10 ^ (2 - i) ≤ 100 := by
      have : (10 : Nat) ^ (2 - i) ≤ 10 ^ 2 := Nat.pow_le_pow_right (by omega) (by omega)
      simpa using this
    exact Nat.le_trans (Nat.mul_le_mul_left _ this) (by omega)
  | succ d ih =>
    intro i n hi hn
    have hp : 0 < 10 ^ d := Nat.pow_pos (by omega)
    have hq : n * 10 * 10 ^ d = n * 10 ^ (d + 1) := by rw [Nat.pow_succ]; rw [Nat.mul_assoc, Nat.mul_comm 10]
    have hn2 : n * 10 ≤ 100000000000000 := Nat.le_trans (Nat.le_mul_of_pos_right _ hp) (by rw [hq]; exact hn)
    refine Ev.step (fun _ => rfl) ?_
    simp only [impl_ReadMoney.l0]
    refine ev_pos (by omega) ?_
    have w1 : wrap64 ((n : Int) * 10) = ((n * 10 : Nat) : Int) := by rw [wrap_id (by omega) (by omega)]; omega
    have w2 : wrap64 ((i : Int) + 1) = ((i + 1 : Nat) : Int) := by rw [wrap_id (by omega) (by omega)]; omega
    rw [w1, w2, ← hq]
    exact ih (i + 1) (n * 10) (by omega) (by rw [hq]; exact hn)
theorem m_j4 {sg : Int} (hs : sg = 1 ∨ sg = -1) (c m n : Nat) (hc : c ≤ 2) (hm : m ≤ 1000) (hn : n ≤ 1000000000000) (b : Bool) : Ev (fun k => impl_ReadMoney.j4 k 2 sg (n : Int) (c : Int) (m : Int) b) (if b = true then (0, false) else finM sg ((n * 10 ^ c + m) * 10 ^ (2 - c))) := by
  refine Ev.step (fun _ => rfl) ?_
  simp only [impl_ReadMoney.j4]
  by_cases h : b = true
  · rw [if_pos h]; exact ev_pos h (ev_some _)
  · rw [if_neg h]
    refine ev_neg h (m_l0 hs c m hc hm c 0 n (by omega) ?_)
    have : 10 ^ c ≤ 100 := by
      have : (10 : Nat) ^ c ≤ 10 ^ 2 := Nat.pow_le_pow_right (by omega) (by omega)
      simpa using this
    exact Nat.le_trans (Nat.mul_le_mul_left _ this) (by omega)
theorem m_j4t {sg c m n : Int} : Ev (fun k => impl_ReadMoney.j4 k 2 sg n c m true) (0, false) := by
  refine Ev.step (fun _ => rfl) ?_
  simp only [impl_ReadMoney.j4]
  exact ev_pos trivial (ev_some _)
theorem okF : okM (0, false) := fun h => by cases h
theorem m_j3 (l pre : List UInt8) (hl : l.length ≤ 4000) (sg : Int) (hs : sg = 1 ∨ sg = -1) (n : Nat) (hn : n ≤ 1000000000000) (rest : List UInt8) (he : l = pre ++ 46 :: rest) :
    EvP (fun k => impl_ReadMoney.j3 k (B l) 2 sg (n : Int) ((pre.length : Nat) : Int) false) (fun r => okM r ∧ (∀ d1 d0, d1 < 10 → d0 < 10 → rest = [dgt d1, dgt d0] → r = finM sg (n * 100 + (d1 * 10 + d0)))) := by
  obtain ⟨ds, t, h1, h2, h3⟩ := runs rest
  have e1 : (pre ++ [46]).length = pre.length + 1 := by rw [List.length_append]; rfl
  have hz : l.length = pre.length + 1 + (ds.length + t.length) := by rw [he, h1]; simp only [List.length_append, List.length_cons]; omega
  obtain ⟨r, hr, hr2, u, hr1, hu, huv⟩ := digRun l (pre ++ [46]) ds t hl (by rw [he, h1]; simp) h2 h3
  have w1 : wrap64 (((pre.length : Nat) : Int) + 1) = ((pre.length + 1 : Nat) : Int) := by rw [wrap_id (by omega) (by omega)]; omega
  rw [e1] at hr hr2
  have w2 : wrap64 (r.2 - ((pre.length + 1 : Nat) : Int)) = ((ds.length : Nat) : Int) := by rw [hr2, wrap_id (by omega) (by omega)]; omega
  have no : ∀ (d1 d0 : Nat), d1 < 10 → d0 < 10 → rest = [dgt d1, dgt d0] → ds.length = 2 ∧ t = [] ∧ u = d1 * 10 + d0 := by
    intro d1 d0 k1 k0 he2
    rw [he2] at h1
    have i1 := dgt_isD k1
    have i0 := dgt_isD k0
    cases ds with
    | nil => exact absurd i1 (h3 _ _ h1.symm)
    | cons a ds =>
      injection h1 with ha h1
      cases ds with
      | nil => exact absurd i0 (h3 _ _ h1.symm)
      | cons b ds =>
        injection h1 with hb h1
        have hd0 : ds = [] ∧ t = [] := List.append_eq_nil_iff.1 h1.symm
        obtain ⟨rfl, rfl⟩ := hd0
        refine ⟨rfl, rfl, ?_⟩
        rw [huv (by simp), ← ha, ← hb]
        show (0 * 10 + ((dgt d1).toNat - 48)) * 10 + ((dgt d0).toNat - 48) = _
        rw [dgt_toNat k1, dgt_toNat k0]
        omega
  refine evp_step (fun _ => rfl) ?_
  simp only [impl_ReadMoney.j3]
  refine evp_neg (by simp) ?_
  rw [w1]
  refine ⟨if ds.length < 1 ∨ ds.length > 2 then (0, false) else if (r.2 != ((B l).size : Int)) = true then (0, false) else finM sg ((n * 10 ^ ds.length + u) * 10 ^ (2 - ds.length)), ev_bind hr ?_, ?_⟩
  · rw [w2]
    by_cases c1 : ds.length < 1
    · rw [if_pos (Or.inl c1)]
      exact ev_pos (by omega) m_j4t
    · refine ev_neg (by omega) ?_
      by_cases c2 : ds.length > 2
      · rw [if_pos (Or.inr c2)]
        exact ev_pos (by omega) m_j4t
      · rw [if_neg (show ¬ (ds.length < 1 ∨ ds.length > 2) by omega)]
        refine ev_neg (by omega) ?_
        rw [hr1]
        have hu2 : u ≤ 1000 := by
          rw [huv (by omega)]
          match ds, c1, c2 with
          | [a], _, _ =>
            have := (h2 a (by simp)); unfold isD at this
            show 0 * 10 + (a.toNat - 48) ≤ 1000
            omega
          | [a, b], _, _ =>
            have h5 := (h2 a (by simp)); have h6 := (h2 b (by simp)); unfold isD at h5 h6
            show (0 * 10 + (a.toNat - 48)) * 10 + (b.toNat - 48) ≤ 1000
            omega
          | a :: b :: c :: q, _, c2 => exact absurd (by simp) c2
        exact m_j4 hs ds.length u n (by omega) hu2 hn _
  · constructor
    · by_cases c1 : ds.length < 1 ∨ ds.length > 2
      · rw [if_pos c1]; exact okF
      · rw [if_neg c1]
        by_cases c2 : (r.2 != ((B l).size : Int)) = true
        · rw [if_pos c2]; exact okF
        · rw [if_neg c2]; exact finM_ok hs
    · intro d1 d0 k1 k0 he2
      obtain ⟨n1, n2, n3⟩ := no d1 d0 k1 k0 he2
      rw [n1, if_neg (by omega), if_neg, n3]
      · rw [show (10 : Nat) ^ 2 = 100 from rfl, Nat.sub_self, Nat.pow_zero, Nat.mul_one]
      · rw [hr2, B_size, hz, n1, n2]
        simp
theorem m_j3t {s : ByteArray} {sg n a : Int} : Ev (fun k => impl_ReadMoney.j3 k s 2 sg n a true) (0, false) := by
  refine Ev.step (fun _ => rfl) ?_
  simp only [impl_ReadMoney.j3]
  exact ev_pos trivial (ev_some _)
theorem m_j2t {s : ByteArray} {sg n a : Int} : Ev (fun k => impl_ReadMoney.j2 k s 2 sg n a true) (0, false) := by
  refine Ev.step (fun _ => rfl) ?_
  simp only [impl_ReadMoney.j2]
  exact ev_pos trivial (ev_some _)
theorem m_j2 (l pre rest : List UInt8) (hl : l.length ≤ 4000) (sg : Int) (hs : sg = 1 ∨ sg = -1) (n : Nat) (hn : n ≤ 1000000000000) (he : l = pre ++ rest) (b : Bool) :
    EvP (fun k => impl_ReadMoney.j2 k (B l) 2 sg (n : Int) ((pre.length : Nat) : Int) b) (fun r => okM r ∧ (b = false → ∀ d1 d0, d1 < 10 → d0 < 10 → rest = [46, dgt d1, dgt d0] → r = finM sg (n * 100 + (d1 * 10 + d0)))) := by
  by_cases hb : b = true
  · subst hb
    exact ⟨_, m_j2t, okF, fun h => by cases h⟩
  · refine evp_step (fun _ => rfl) ?_
    simp only [impl_ReadMoney.j2]
    refine evp_neg hb ?_
    cases rest with
    | nil =>
      rw [List.append_nil] at he
      refine evp_neg (by rw [B_size, he]; omega) ?_
      have h := m_j6 hs 0 n (by omega) (by show n * 10 ^ 2 ≤ _; omega)
      exact ⟨_, h, finM_ok hs, fun _ d1 d0 _ _ h2 => by cases h2⟩
    | cons c r =>
      have hb2 : bt (B l) ((pre.length : Nat) : Int) = (c.toNat : Int) := by rw [he]; exact bt_mid _ _ _
      refine evp_pos (by rw [B_size, he]; simp only [List.length_append, List.length_cons]; omega) (evp_pos (by omega) ?_)
      rw [hb2]
      by_cases hc : c = 46
      · refine evp_pos ((u8_eq c 46 (by omega)).2 hc) ?_
        have e0 : ((2 : Int) == 0) = false := rfl
        rw [e0]
        refine evp_mono (m_j3 l pre hl sg hs n hn r (by rw [he, hc])) (fun v hv => ⟨hv.1, fun _ d1 d0 k1 k0 h2 => hv.2 d1 d0 k1 k0 ?_⟩)
        injection h2
      · refine evp_neg (fun h => hc ((u8_eq c 46 (by omega)).1 h)) ?_
        refine ⟨_, m_j3t, okF, fun _ d1 d0 _ _ h2 => ?_⟩
        injection h2 with h2 _
        exact absurd h2 hc
theorem runs_one : ∀ (ds t ds' t' : List UInt8), ds ++ t = ds' ++ t' → (∀ c ∈ ds, isD c) → (∀ c ∈ ds', isD c) → (∀ c r, t = c :: r → ¬ isD c) → (∀ c r, t' = c :: r → ¬ isD c) → ds = ds' ∧ t = t' := by
  intro ds
  induction ds with
  | nil =>
    intro t ds' t' he _ hd' ht ht'
    cases ds' with
    | nil => exact ⟨rfl, he⟩
    | cons c ds' => exact absurd (hd' c (by simp)) (ht c _ he)
  | cons c ds ih =>
    intro t ds' t' he hd hd' ht ht'
    cases ds' with
    | nil => exact absurd (hd c (by simp)) (ht' c _ he.symm)
    | cons c' ds' =>
      injection he with h1 h2
      obtain ⟨h3, h4⟩ := ih t ds' t' h2 (fun x hx => hd x (by simp [hx])) (fun x hx => hd' x (by simp [hx])) ht ht'
      exact ⟨by rw [h1, h3], h4⟩
theorem val_lt : ∀ (ds : List UInt8) (v d : Nat), (∀ c ∈ ds, isD c) → v < 10 ^ d → val v ds < 10 ^ (d + ds.length) := by
  intro ds
  induction ds with
  | nil => intro v d _ h; exact h
  | cons c ds ih =>
    intro v d hd h
    have hc := hd c (by simp)
    unfold isD at hc
    have := ih (v * 10 + (c.toNat - 48)) (d + 1) (fun x hx => hd x (by simp [hx])) (by rw [Nat.pow_succ]; omega)
    show val (v * 10 + (c.toNat - 48)) ds < _
    rw [show d + (c :: ds).length = d + 1 + ds.length by simp only [List.length_cons]; omega]
    exact this
theorem m_j1 (l pre rest : List UInt8) (hl : l.length ≤ 4000) (sg : Int) (hs : sg = 1 ∨ sg = -1) (he : l = pre ++ rest) :
    EvP (fun k => impl_ReadMoney.j1 k (B l) 2 sg ((pre.length : Nat) : Int)) (fun r => okM r ∧ ∀ n, n ≤ 100000000000 → rest = mon n → r = finM sg n) := by
  obtain ⟨ds, t, h1, h2, h3⟩ := runs rest
  have hz : l.length = pre.length + (ds.length + t.length) := by rw [he, h1]; simp only [List.length_append]
  obtain ⟨r, hr, hr2, u, hr1, hu, huv⟩ := digRun l pre ds t hl (by rw [he, h1]; simp) h2 h3
  have w2 : wrap64 (r.2 - ((pre.length : Nat) : Int)) = ((ds.length : Nat) : Int) := by rw [hr2, wrap_id (by omega) (by omega)]; omega
  have hl2 : (pre ++ ds).length = pre.length + ds.length := List.length_append
  have no : ∀ n, n ≤ 100000000000 → rest = mon n → ds = dec (n / 100) ∧ t = [46, dgt (n / 10 % 10), dgt (n % 10)] := by
    intro n hn hm
    have h5 : ds ++ t = dec (n / 100) ++ [46, dgt (n / 10 % 10), dgt (n % 10)] := by rw [← h1, hm]; rfl
    refine runs_one ds t _ _ h5 h2 (dec_isD _) h3 (fun c r hc => ?_)
    injection hc with hc _
    rw [← hc]
    unfold isD
    show ¬ (48 ≤ 46 ∧ 46 ≤ 57)
    omega
  have dl : ∀ n, n ≤ 100000000000 → (dec (n / 100)).length ≤ 10 := fun n hn => dec_len (d := 9) (by omega)
  refine evp_step (fun _ => rfl) ?_
  simp only [impl_ReadMoney.j1]
  refine evp_bind (evp_ev hr) (fun a ha => ?_)
  rw [ha]
  rw [w2, hr1]
  by_cases c0 : ds.length = 0
  · refine evp_pos (by rw [hr2]; omega) ⟨_, m_j2t, okF, fun n hn hm => ?_⟩
    have := dec_pos (n / 100)
    rw [← (no n hn hm).1] at this
    omega
  · refine evp_neg (by rw [hr2]; omega) ?_
    by_cases c1 : ds.length > 12
    · refine evp_pos (by omega) ⟨_, m_j2t, okF, fun n hn hm => ?_⟩
      have := dl n hn
      rw [← (no n hn hm).1] at this
      omega
    · refine evp_neg (by omega) ?_
      have hun : u ≤ 1000000000000 := by
        have h5 := val_lt ds 0 0 h2 (by simp)
        have h6 : (10 : Nat) ^ (0 + ds.length) ≤ 10 ^ 12 := Nat.pow_le_pow_right (by omega) (by omega)
        rw [huv (by omega)]
        have h7 : (10 : Nat) ^ 12 = 1000000000000 := rfl
        omega
      have h8 : ∀ b : Bool, EvP (fun k => impl_ReadMoney.j2 k (B l) 2 sg (u : Int) r.2 b) (fun r => okM r ∧ (b = false → ∀ d1 d0, d1 < 10 → d0 < 10 → t = [46, dgt d1, dgt d0] → r = finM sg (u * 100 + (d1 * 10 + d0)))) := by
        intro b
        have := m_j2 l (pre ++ ds) t hl sg hs u hun (by rw [he, h1]; simp) b
        rw [hl2] at this
        rw [hr2]
        exact this
      have h9 : ∀ n, n ≤ 100000000000 → rest = mon n → u * 100 + (n / 10 % 10 * 10 + n % 10) = n := by
        intro n hn hm
        rw [huv (by omega), (no n hn hm).1, dec_val]
        omega
      by_cases c2 : ds.length > 1
      · refine evp_pos (by omega) (evp_pos (by omega) (evp_pos (by rw [B_size]; omega) ?_))
        refine evp_mono (h8 _) (fun v hv => ⟨hv.1, fun n hn hm => ?_⟩)
        have h10 := h9 n hn hm
        rw [← h10]
        refine hv.2 ?_ _ _ (by omega) (by omega) (no n hn hm).2
        have hd := (no n hn hm).1
        cases ds with
        | nil => simp at c0
        | cons c ds =>
          have hb : bt (B l) ((pre.length : Nat) : Int) = (c.toNat : Int) := by rw [he, h1]; exact bt_mid _ _ _
          rw [hb]
          have hne : c ≠ 48 := by
            by_cases hq : n / 100 = 0
            · rw [hq, dec_low (by omega)] at hd
              rw [hd] at c2
              simp at c2
            · rw [← decz_pos hq] at hd
              exact decz_head _ c ds hd.symm
          rw [beq_eq_false_iff_ne]
          intro h11
          exact hne ((u8_eq c 48 (by omega)).1 h11)
      · refine evp_neg (by omega) (evp_mono (h8 false) (fun v hv => ⟨hv.1, fun n hn hm => ?_⟩))
        have h10 := h9 n hn hm
        rw [← h10]
        exact hv.2 rfl _ _ (by omega) (by omega) (no n hn hm).2
theorem m_j0 (l : List UInt8) (hl : l.length ≤ 4000) (b : Bool) (hb : b = true → 1 ≤ l.length) : EvP (fun k => impl_ReadMoney.j0 k (B l) 2 1 0 b) (fun r => okM r ∧ (b = false → ∀ n, n ≤ 100000000000 → l = mon n → r = ((n : Int), true))) := by
  refine evp_step (fun _ => rfl) ?_
  simp only [impl_ReadMoney.j0]
  by_cases h : b = true
  · refine evp_pos h ?_
    cases l with
    | nil => exact absurd (hb h) (by simp)
    | cons c q =>
      refine evp_mono (m_j1 (c :: q) [c] q hl (-1) (Or.inr rfl) rfl) ?_
      intro v hv
      exact ⟨hv.1, fun h2 => by rw [h] at h2; cases h2⟩
  · refine evp_neg h ?_
    refine evp_mono (m_j1 l [] l hl 1 (Or.inl rfl) rfl) ?_
    intro v hv
    refine ⟨hv.1, fun _ n hn hm => ?_⟩
    rw [hv.2 n hn hm]
    unfold finM
    rw [if_neg (by omega)]
    congr 1
    omega
theorem readAny (l : List UInt8) (hl : l.length ≤ 4000) : EvP (fun k => impl_ReadMoney.f k (B l) 2) (fun r => okM r ∧ ∀ n, n ≤ 100000000000 → l = mon n → r = ((n : Int), true)) := by
  unfold impl_ReadMoney.f
  refine evp_bind0 (between_eq _ _ _) (evp_pos (by simp) ?_)
  cases l with
  | nil =>
    refine evp_neg (by rw [B_size]; simp) ?_
    refine evp_mono (m_j0 [] hl false (fun h => by cases h)) ?_
    intro v hv
    exact ⟨hv.1, hv.2 rfl⟩
  | cons c r =>
    refine evp_pos (by rw [B_size]; simp only [List.length_cons]; omega) (evp_pos (by rw [B_size]; simp only [List.length_cons]; omega) ?_)
    have hb : bt (B (c :: r)) 0 = (c.toNat : Int) := bt_mid [] r c
    rw [hb]
    refine evp_mono (m_j0 (c :: r) hl _ (fun _ => by simp)) (fun v hv => ⟨hv.1, fun n hn hm => hv.2 ?_ n hn hm⟩)
    rw [beq_eq_false_iff_ne]
    intro h
    have h1 : isD c := by
      cases hd : dec (n / 100) with
      | nil => have := dec_pos (n / 100); rw [hd] at this; simp at this
      | cons c' r' =>
        have hm2 := hm
        unfold mon at hm2
        rw [hd] at hm2
        injection hm2 with hm2 _
        rw [hm2]
        exact dec_isD (n / 100) c' (by rw [hd]; simp)
    unfold isD at h1
    omega
end Go.Proofs.Ytfkakbpjddgmeaa.PFnFlowBack
