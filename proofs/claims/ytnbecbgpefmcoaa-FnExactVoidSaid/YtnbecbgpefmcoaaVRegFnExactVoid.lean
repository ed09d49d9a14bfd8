import Derived.Test.YtnbecbgpefmcoaaVNamesFnExactVoid
set_option linter.unusedVariables false
set_option linter.unusedSimpArgs false
namespace Go.Proofs.Ytnbecbgpefmcoaa.PFnExactVoid
open Go Go.RowKit Go.Proofs.YtnbecbgpefmcoaaW.PrintWords Go.Proofs.YtnbecbgpefmcoaaW.PrintLast Go.Proofs.Ytnbecbgpefmcoaa.MapWords Go.Proofs.Ytnbecbgpefmcoaa.EvWords
open Classical
abbrev Ser := S304
abbrev Pap := S230
theorem isDay_eq (a : Int) : impl_isDay.f a = some (decide (0 ≤ a ∧ a ≤ 40000)) := by
  unfold impl_isDay.f; rw [between_eq]; rfl
theorem l2Day_eq (a : Int) : spec_l2Day.f a = some (decide (0 ≤ a ∧ a ≤ 40000)) := by
  unfold spec_l2Day.f; rw [l1In_eq]; rfl
def dg (n : Int) : Nat := if n < 10 then 1 else if n < 100 then 2 else 3
theorem dig_size {d : Int} (h : 0 ≤ d ∧ d < 10) : ((⟨#[48, 49, 50, 51, 52, 53, 54, 55, 56, 57]⟩ : ByteArray).extract d.toNat (wrap64 (d + 1)).toNat).size = 1 := by
  rw [wrap_id (by omega) (by omega), ByteArray.size_extract]
  have e : (⟨#[48, 49, 50, 51, 52, 53, 54, 55, 56, 57]⟩ : ByteArray).size = 10 := rfl
  omega
theorem text_one {n : Int} (h : 0 ≤ n ∧ n < 10) : ∃ t, Ev (fun k => spec_l1Text.f k n) t ∧ t.size = 1 := by
  refine ⟨_, ?_, dig_size h⟩
  refine Ev.step (fun _ => rfl) ?_
  have hw : wrap64 (n + 1) = n + 1 := wrap_id (by omega) (by omega)
  refine ev_neg (by omega) (ev_pos (by omega) (ev_pos (by omega) (ev_pos (by rw [hw]; omega) (ev_pos (by rw [hw]; omega) (ev_some _)))))
theorem text_more {n : Int} {s : Nat} (h : 10 ≤ n ∧ n ≤ 1000000) (hs : s ≤ 1000) (hq : ∃ t, Ev (fun k => spec_l1Text.f k (n / 10)) t ∧ t.size = s) : ∃ t, Ev (fun k => spec_l1Text.f k n) t ∧ t.size = s + 1 := by
  obtain ⟨t, h1, h2⟩ := hq
  have e1 : wrap64 (Int.tdiv n 10) = n / 10 := by rw [Int.tdiv_eq_ediv_of_nonneg (by omega)]; exact wrap_id (by omega) (by omega)
  have e2 : Int.tmod n 10 = n % 10 := Int.tmod_eq_emod_of_nonneg (by omega)
  have hd : 0 ≤ n % 10 ∧ n % 10 < 10 := by omega
  have hw : wrap64 (n % 10 + 1) = n % 10 + 1 := wrap_id (by omega) (by omega)
  have hz := dig_size hd
  refine ⟨t ++ (⟨#[48, 49, 50, 51, 52, 53, 54, 55, 56, 57]⟩ : ByteArray).extract (n % 10).toNat (wrap64 (n % 10 + 1)).toNat, ?_, by rw [ByteArray.size_append, h2, hz]⟩
  refine Ev.step (fun _ => rfl) ?_
  refine ev_neg (by omega) (ev_neg (by omega) ?_)
  rw [e1, e2]
  refine (ev_bind h1 (ev_pos (by omega) (ev_pos (by rw [hw]; omega) (ev_pos (by rw [hw]; omega) (ev_pos (by rw [hz, h2]; omega) (ev_some _))))))
theorem text_dg {n : Int} (h : 0 ≤ n ∧ n < 1000) : ∃ t, Ev (fun k => spec_l1Text.f k n) t ∧ t.size = dg n := by
  unfold dg
  by_cases h1 : n < 10
  · rw [if_pos h1]; exact text_one ⟨h.1, h1⟩
  · rw [if_neg h1]
    by_cases h2 : n < 100
    · rw [if_pos h2]; exact text_more (s := 1) (by omega) (by omega) (text_one (by omega))
    · rw [if_neg h2]; exact text_more (s := 2) (by omega) (by omega) (text_more (s := 1) (by omega) (by omega) (text_one (by omega)))
theorem num_size (d : Int) : (strOfNums [d]).size = 1 := by simp [strOfNums, ByteArray.size]
theorem dec_end (s : ByteArray) : Ev (fun k => impl_decimal.l0 k 0 s) s := by
  refine Ev.step (fun _ => rfl) ?_
  exact ev_neg (by omega) (ev_some _)
theorem dec_more {x : Int} {s : ByteArray} {m : Nat} (h : 1 ≤ x ∧ x ≤ 1000000) (hs : s.size ≤ 1000) (hq : ∀ s' : ByteArray, s'.size = s.size + 1 → ∃ t, Ev (fun k => impl_decimal.l0 k (x / 10) s') t ∧ t.size = m) : ∃ t, Ev (fun k => impl_decimal.l0 k x s) t ∧ t.size = m := by
  have e1 : wrap64 (Int.tdiv x 10) = x / 10 := by rw [Int.tdiv_eq_ediv_of_nonneg (by omega)]; exact wrap_id (by omega) (by omega)
  obtain ⟨t, h1, h2⟩ := hq (strOfNums [wrap64 (48 + Int.tmod x 10) % 256] ++ s) (by rw [ByteArray.size_append, num_size]; omega)
  refine ⟨t, ?_, h2⟩
  refine Ev.step (fun _ => rfl) ?_
  refine ev_pos (by omega) (ev_bind0 rfl (ev_pos (by rw [num_size]; omega) ?_))
  rw [e1]
  exact h1
theorem dec_dg {n : Int} (h : 0 ≤ n ∧ n < 1000) : Ev (fun k => impl_digitsIn.f k n) (dg n : Int) := by
  have main : ∃ t, Ev (fun k => impl_decimal.f k n) t ∧ t.size = dg n := by
    have e1 : wrap64 (Int.tdiv n 10) = n / 10 := by rw [Int.tdiv_eq_ediv_of_nonneg (by omega)]; exact wrap_id (by omega) (by omega)
    have key : ∀ s : ByteArray, s.size = 1 → ∃ t, Ev (fun k => impl_decimal.l0 k (n / 10) s) t ∧ t.size = dg n := by
      intro s hs
      unfold dg
      by_cases h1 : n < 10
      · rw [if_pos h1, show n / 10 = 0 by omega]; exact ⟨s, dec_end s, hs⟩
      · rw [if_neg h1]
        by_cases h2 : n < 100
        · rw [if_pos h2]
          refine dec_more (by omega) (by omega) (fun s' h' => ?_)
          rw [show n / 10 / 10 = 0 by omega]; exact ⟨s', dec_end s', by omega⟩
        · rw [if_neg h2]
          refine dec_more (by omega) (by omega) (fun s' h' => dec_more (by omega) (by omega) (fun s'' h'' => ?_))
          rw [show n / 10 / 10 / 10 = 0 by omega]; exact ⟨s'', dec_end s'', by omega⟩
    obtain ⟨t, h1, h2⟩ := key (strOfNums [wrap64 (48 + Int.tmod n 10) % 256]) (num_size _)
    refine ⟨t, ?_, h2⟩
    refine Ev.step (fun _ => rfl) ?_
    refine ev_neg (by omega) ?_
    rw [e1]
    exact h1
  obtain ⟨t, h1, h2⟩ := main
  unfold impl_digitsIn.f
  refine ev_bind h1 (ev_eq (ev_some _) (by rw [h2]))
def cnt (P : List Pap) (s : Int) : Nat → Int
  | 0 => 0
  | i + 1 => if (rd_T230 P i).f0 = s then cnt P s i + 1 else cnt P s i
def lst (P : List Pap) (s : Int) : Nat → Int
  | 0 => 0
  | i + 1 => if (rd_T230 P i).f0 = s then (rd_T230 P i).f2 else lst P s i
theorem cnt_bd (P : List Pap) (s : Int) : ∀ i, 0 ≤ cnt P s i ∧ cnt P s i ≤ i
  | 0 => by simp [cnt]
  | i + 1 => by
    have := cnt_bd P s i
    unfold cnt
    split <;> omega
def serP (S : List Ser) (i : Nat) : Prop := nameP (rd_T304 S i).f0 ∧ (1 ≤ (rd_T304 S i).f1 ∧ (rd_T304 S i).f1 ≤ 8) ∧ ∀ j : Nat, j < i → (rd_T304 S j).f0 ≠ (rd_T304 S i).f0
def numP (S : List Ser) (P : List Pap) (s : Int) (k : Nat) : Prop := (rd_T230 P k).f1 = cnt P s k + 1 ∧ lst P s k ≤ (rd_T230 P k).f2 ∧ (dg (cnt P s k + 1) : Int) ≤ (rd_T304 S s).f1
def papP (S : List Ser) (P : List Pap) (k : Nat) : Prop := (0 ≤ (rd_T230 P k).f0 ∧ (rd_T230 P k).f0 < S.length) ∧ (0 ≤ (rd_T230 P k).f2 ∧ (rd_T230 P k).f2 ≤ 40000) ∧ numP S P (rd_T230 P k).f0 k
def regP (S : List Ser) (P : List Pap) : Prop := (S.length ≤ 20 ∧ P.length ≤ 400) ∧ (∀ i : Nat, i < S.length → serP S i) ∧ ∀ k : Nat, k < P.length → papP S P k
def spm (S : List Ser) : Nat → List (ByteArray × Bool)
  | 0 => []
  | i + 1 => ((rd_T304 S i).f0, true) :: spm S i
def npm (P : List Pap) : Nat → List (Int × Int)
  | 0 => []
  | i + 1 => ((rd_T230 P i).f0, wrap64 (mget 0 (npm P i) (rd_T230 P i).f0 + 1)) :: npm P i
def dpm (P : List Pap) : Nat → List (Int × Int)
  | 0 => []
  | i + 1 => ((rd_T230 P i).f0, (rd_T230 P i).f2) :: dpm P i
theorem spm_len (S : List Ser) : ∀ i, (spm S i).length = i
  | 0 => rfl
  | i + 1 => by simp [spm, spm_len S i]
theorem npm_len (P : List Pap) : ∀ i, (npm P i).length = i
  | 0 => rfl
  | i + 1 => by simp [npm, npm_len P i]
theorem dpm_len (P : List Pap) : ∀ i, (dpm P i).length = i
  | 0 => rfl
  | i + 1 => by simp [dpm, dpm_len P i]
theorem spm_get (S : List Ser) (s : ByteArray) : ∀ i, mget false (spm S i) s = true ↔ ∃ j : Nat, j < i ∧ (rd_T304 S j).f0 = s
  | 0 => by simp [spm, mget]
  | i + 1 => by
    simp only [spm, mget]
    split
    · rename_i h
      exact ⟨fun _ => ⟨i, by omega, h⟩, fun _ => rfl⟩
    · rename_i h
      rw [spm_get S s i]
      exact ⟨fun ⟨j, hj, e⟩ => ⟨j, by omega, e⟩, fun ⟨j, hj, e⟩ => ⟨j, by
        by_cases hji : j = i
        · subst hji; exact absurd e h
        · omega, e⟩⟩
theorem npm_get (P : List Pap) (s : Int) : ∀ i, i ≤ 1000 → mget 0 (npm P i) s = cnt P s i
  | 0, _ => rfl
  | i + 1, hi => by
    have hb := cnt_bd P (rd_T230 P i).f0 i
    simp only [npm, mget, cnt]
    split
    · rename_i h
      rw [npm_get P _ i (by omega), wrap_id (by omega) (by omega), h]
    · exact npm_get P s i (by omega)
theorem dpm_get (P : List Pap) (s : Int) : ∀ i, mget 0 (dpm P i) s = lst P s i
  | 0 => rfl
  | i + 1 => by
    simp only [dpm, mget, lst]
    split
    · rfl
    · exact dpm_get P s i
section
variable (S : List Ser) (hs : ∀ i : Nat, i < S.length → (rd_T304 S i).f0.size ≤ 9223372036854775807) (P : List Pap) (hp : ∀ i : Nat, i < P.length → (-9223372036854775808 ≤ (rd_T230 P i).f0 ∧ (rd_T230 P i).f0 ≤ 9223372036854775807) ∧ (-9223372036854775808 ≤ (rd_T230 P i).f2 ∧ (rd_T230 P i).f2 ≤ 9223372036854775807))
include hs hp
omit hs in
theorem impl_paps (hS : S.length ≤ 20) (hP : P.length ≤ 400) : Ev (fun k => impl_RegisterOk.l1 k [] [] P P.length 0 S P) (decide (∀ k : Nat, k < P.length → papP S P k)) := by
  have step : ∀ (i : Nat) (r : Bool), i < P.length → (papP S P i → Ev (fun k => impl_RegisterOk.l1 k (npm P (i + 1)) (dpm P (i + 1)) P P.length ((i + 1 : Nat) : Int) S P) r) → (¬ papP S P i → r = false) → Ev (fun k => impl_RegisterOk.l1 k (npm P i) (dpm P i) P P.length i S P) r := by
    intro i r hi hr hbad
    have bad : ¬ papP S P i → Ev (fun _ => some false) r := fun h => by rw [hbad h]; exact ev_some _
    have hb := cnt_bd P (rd_T230 P i).f0 i
    obtain ⟨hp0, hp2⟩ := hp i hi
    have hw : wrap64 ((i : Int) + 1) = ((i + 1 : Nat) : Int) := wrap_succ hi (by omega)
    have hw1 : wrap64 (cnt P (rd_T230 P i).f0 i + 1) = cnt P (rd_T230 P i).f0 i + 1 := wrap_id (by omega) (by omega)
    have hn := npm_get P (rd_T230 P i).f0 i (by omega)
    have hd := dpm_get P (rd_T230 P i).f0 i
    refine Ev.step (fun _ => rfl) ?_
    refine ev_pos (by omega) (ev_pos (by omega) (ev_pos (by omega) ?_))
    rw [hn, hd, hw1]
    by_cases h0 : (rd_T230 P i).f0 < 0
    · exact ev_pos h0 (bad fun g => by have := g.1.1; omega)
    refine ev_neg h0 ?_
    by_cases h1 : (rd_T230 P i).f0 ≥ (S.length : Int)
    · exact ev_pos h1 (bad fun g => by have := g.1.2; omega)
    refine ev_neg h1 (ev_pos hp0.1 (ev_pos hp0.2 ?_))
    by_cases h2 : (rd_T230 P i).f1 = cnt P (rd_T230 P i).f0 i + 1
    · refine ev_pos h2 ?_
      rw [h2]
      refine ev_bind (dec_dg (by omega)) (ev_pos (by omega) (ev_pos (by omega) ?_))
      by_cases h3 : (dg (cnt P (rd_T230 P i).f0 i + 1) : Int) > (rd_T304 S (rd_T230 P i).f0).f1
      · exact ev_pos h3 (bad fun g => by have := g.2.2.2.2; omega)
      refine ev_neg h3 (ev_bind0 (isDay_eq _) ?_)
      by_cases h4 : 0 ≤ (rd_T230 P i).f2 ∧ (rd_T230 P i).f2 ≤ 40000
      · refine ev_pos (decide_eq_true h4) ?_
        by_cases h5 : (rd_T230 P i).f2 < lst P (rd_T230 P i).f0 i
        · exact ev_pos h5 (bad fun g => by have := g.2.2.2.1; omega)
        · refine ev_neg h5 (ev_pos (by rw [npm_len]; omega) (ev_pos hp2.1 (ev_pos hp2.2 (ev_pos (by rw [dpm_len]; omega) ?_))))
          have e1 : ((rd_T230 P i).f0, cnt P (rd_T230 P i).f0 i + 1) :: npm P i = npm P (i + 1) := by
            rw [npm, hn, hw1]
          rw [hw, e1]
          exact hr ⟨⟨by omega, by omega⟩, h4, h2, by omega, by omega⟩
      · exact ev_neg (by rw [decide_eq_true_eq]; exact h4) (bad fun g => h4 g.2.1)
    · exact ev_neg h2 (bad fun g => h2 g.2.2.1)
  refine ev_loopB (F := fun k x => impl_RegisterOk.l1 k (npm P x.toNat) (dpm P x.toNat) P P.length x S P) (n := P.length) (p := fun i => papP S P i) ?_ ?_ ?_
  · intro _
    refine Ev.step (fun _ => rfl) ?_
    exact ev_neg (by omega) (ev_some _)
  · intro i r hi _ hp' h
    exact step i r hi (fun _ => h) (fun hn => absurd hp' hn)
  · intro i hi _ hp'
    exact step i false hi (fun h => absurd h hp') (fun _ => rfl)
theorem implReg : Ev (fun k => impl_RegisterOk.f k S P) (decide (regP S P)) := by
  have bad : ¬ regP S P → Ev (fun _ => some false) (decide (regP S P)) := fun h => by rw [decide_eq_false h]; exact ev_some _
  have join : ∀ b : Bool, b = decide (¬ (S.length ≤ 20 ∧ P.length ≤ 400)) → Ev (fun k => impl_RegisterOk.j0 k b S P) (decide (regP S P)) := by
    intro b hb
    refine Ev.step (fun _ => rfl) ?_
    by_cases hq : S.length ≤ 20 ∧ P.length ≤ 400
    · have hbf : b = false := by rw [hb]; exact decide_eq_false (fun g => g hq)
      refine ev_neg (by simp [hbf]) ?_
      have step : ∀ (i : Nat) (r : Bool), i < S.length → (serP S i → Ev (fun k => impl_RegisterOk.l0 k (spm S (i + 1)) S S.length ((i + 1 : Nat) : Int) S P) r) → (¬ serP S i → r = false) → Ev (fun k => impl_RegisterOk.l0 k (spm S i) S S.length i S P) r := by
        intro i r hi hr hbad
        have bad : ¬ serP S i → Ev (fun _ => some false) r := fun h => by rw [hbad h]; exact ev_some _
        have hw : wrap64 ((i : Int) + 1) = ((i + 1 : Nat) : Int) := wrap_succ hi (by omega)
        refine Ev.step (fun _ => rfl) ?_
        refine ev_pos (by omega) (ev_pos (by omega) (ev_pos (by omega) (ev_bind (implName _) ?_)))
        by_cases h1 : nameP (rd_T304 S i).f0
        · refine ev_pos (decide_eq_true h1) (ev_bind0 (between_eq _ _ _) ?_)
          by_cases h2 : 1 ≤ (rd_T304 S i).f1 ∧ (rd_T304 S i).f1 ≤ 8
          · refine ev_pos (decide_eq_true h2) (ev_pos (hs i hi) ?_)
            by_cases h3 : ∃ j : Nat, j < i ∧ (rd_T304 S j).f0 = (rd_T304 S i).f0
            · obtain ⟨j, hj, e⟩ := h3
              exact ev_pos ((spm_get S _ i).2 ⟨j, hj, e⟩) (bad fun g => g.2.2 j hj e)
            · refine ev_neg (fun g => h3 ((spm_get S _ i).1 g)) (ev_pos (by rw [spm_len]; omega) ?_)
              rw [hw]
              exact hr ⟨h1, h2, fun j hj e => h3 ⟨j, hj, e⟩⟩
          · exact ev_neg (by rw [decide_eq_true_eq]; exact h2) (bad fun g => h2 g.2.1)
        · exact ev_neg (by rw [decide_eq_true_eq]; exact h1) (bad fun g => h1 g.1)
      obtain ⟨g1, g2⟩ := ev_loop (F := fun k x => impl_RegisterOk.l0 k (spm S x.toNat) S S.length x S P) (n := S.length) (p := fun i => serP S i) (R := decide (∀ k : Nat, k < P.length → papP S P k)) (bad := false)
        (fun _ => by
          refine Ev.step (fun _ => rfl) ?_
          exact ev_neg (by omega) (impl_paps S P hp hq.1 hq.2))
        (fun i r hi _ hp' h => step i r hi (fun _ => h) (fun hn => absurd hp' hn))
        (fun i hi _ hp' => step i false hi (fun h => absurd h hp') (fun _ => rfl))
      by_cases h : ∀ i : Nat, i < S.length → serP S i
      · refine ev_eq (g1 h) ?_
        rw [decide_eq_decide]
        exact ⟨fun g => ⟨hq, h, g⟩, fun g => g.2.2⟩
      · refine ev_eq (g2 h) ?_
        symm; rw [decide_eq_false_iff_not]; exact fun g => h g.2.1
    · have hbt : b = true := by rw [hb, decide_eq_true_eq]; exact hq
      exact ev_pos hbt (bad fun g => hq g.1)
  unfold impl_RegisterOk.f
  by_cases h1 : (S.length : Int) > 20
  · refine ev_pos h1 (join true ?_)
    symm; rw [decide_eq_true_eq]; omega
  · refine ev_neg h1 (join _ ?_)
    rw [decide_eq_decide]; omega
omit hs hp in
theorem spec_num (hS : S.length ≤ 20) (hP : P.length ≤ 400) (i : Nat) (hi : i < S.length) (r : Bool) (hr : (∀ k : Nat, k < P.length → (rd_T230 P k).f0 = i → numP S P i k) → Ev (fun k => spec_RegisterOk.l0 k ((i + 1 : Nat) : Int) S P) r) (hbad : (¬ ∀ k : Nat, k < P.length → (rd_T230 P k).f0 = i → numP S P i k) → r = false) :
    Ev (fun k => spec_RegisterOk.l2 k i 0 0 0 S P) r := by
  have hw : wrap64 ((i : Int) + 1) = ((i + 1 : Nat) : Int) := wrap_succ hi (by omega)
  have step : ∀ (x : Nat) (q : Bool), x < P.length → (((rd_T230 P x).f0 = i → numP S P i x) → Ev (fun k => spec_RegisterOk.l2 k i (cnt P i (x + 1)) (lst P i (x + 1)) ((x + 1 : Nat) : Int) S P) q) → (¬ ((rd_T230 P x).f0 = i → numP S P i x) → q = false) → Ev (fun k => spec_RegisterOk.l2 k i (cnt P i x) (lst P i x) x S P) q := by
    intro x q hx hq hqb
    have bad : ¬ ((rd_T230 P x).f0 = i → numP S P i x) → Ev (fun _ => some false) q := fun h => by rw [hqb h]; exact ev_some _
    have hb := cnt_bd P i x
    have hwx : wrap64 ((x : Int) + 1) = ((x + 1 : Nat) : Int) := wrap_succ hx (by omega)
    have hw1 : wrap64 (cnt P i x + 1) = cnt P i x + 1 := wrap_id (by omega) (by omega)
    refine Ev.step (fun _ => rfl) ?_
    refine ev_pos (by omega) (ev_pos (by omega) ?_)
    rw [hw1, hwx]
    by_cases h0 : (rd_T230 P x).f0 = i
    · refine ev_pos h0 ?_
      by_cases h1 : (rd_T230 P x).f1 = cnt P i x + 1
      · refine ev_pos h1 ?_
        by_cases h2 : (rd_T230 P x).f2 < lst P i x
        · exact ev_pos h2 (bad fun g => by have := (g h0).2.1; omega)
        · obtain ⟨t, e1, e2⟩ := text_dg (n := cnt P i x + 1) (by omega)
          refine ev_neg h2 (ev_bind e1 (ev_pos (by omega) (ev_pos (by omega) ?_)))
          rw [e2]
          by_cases h3 : (dg (cnt P i x + 1) : Int) > (rd_T304 S (i : Int)).f1
          · exact ev_pos h3 (bad fun g => by have := (g h0).2.2; omega)
          · refine ev_neg h3 ?_
            have f1 : cnt P i (x + 1) = cnt P i x + 1 := by rw [cnt, if_pos h0]
            have f2 : lst P i (x + 1) = (rd_T230 P x).f2 := by rw [lst, if_pos h0]
            have := hq (fun _ => ⟨h1, by omega, by omega⟩)
            rw [f1, f2] at this
            exact this
      · exact ev_neg h1 (bad fun g => h1 (g h0).1)
    · refine ev_neg h0 ?_
      have f1 : cnt P i (x + 1) = cnt P i x := by rw [cnt, if_neg h0]
      have f2 : lst P i (x + 1) = lst P i x := by rw [lst, if_neg h0]
      have := hq (fun h => absurd h h0)
      rw [f1, f2] at this
      exact this
  obtain ⟨g1, g2⟩ := ev_loop (F := fun k x => spec_RegisterOk.l2 k i (cnt P i x.toNat) (lst P i x.toNat) x S P) (n := P.length) (p := fun x => (rd_T230 P x).f0 = i → numP S P i x) (R := r) (bad := false)
    (fun h => by
      refine Ev.step (fun _ => rfl) ?_
      refine ev_neg (by omega) ?_
      rw [hw]
      exact hr h)
    (fun x q hx _ hp' h => step x q hx (fun _ => h) (fun hn => absurd hp' hn))
    (fun x hx _ hp' => step x false hx (fun h => absurd h hp') (fun _ => rfl))
  by_cases h : ∀ k : Nat, k < P.length → (rd_T230 P k).f0 = i → numP S P i k
  · exact g1 h
  · have h5 := g2 h
    rw [hbad h]
    exact h5
omit hs hp in
theorem spec_apart (hS : S.length ≤ 20) (hP : P.length ≤ 400) (i : Nat) (hi : i < S.length) (r : Bool) (hr : (∀ j : Nat, j < i → (rd_T304 S j).f0 ≠ (rd_T304 S i).f0) → Ev (fun k => spec_RegisterOk.l2 k i 0 0 0 S P) r) (hbad : (¬ ∀ j : Nat, j < i → (rd_T304 S j).f0 ≠ (rd_T304 S i).f0) → r = false) :
    Ev (fun k => spec_RegisterOk.l1 k i 0 S P) r := by
  obtain ⟨g1, g2⟩ := ev_loop (F := fun k x => spec_RegisterOk.l1 k i x S P) (n := i) (p := fun j => (rd_T304 S j).f0 ≠ (rd_T304 S i).f0) (R := r) (bad := false)
    (fun h => by
      refine Ev.step (fun _ => rfl) ?_
      exact ev_neg (by omega) (hr h))
    (fun j q hj _ hp' h => by
      refine Ev.step (fun _ => rfl) ?_
      refine ev_pos (by omega) (ev_pos (by omega) (ev_pos (by omega) (ev_pos (by omega) (ev_pos (by omega) (ev_neg ?_ ?_)))))
      · rw [str_iff]; exact hp'
      · rw [wrap_succ hj (by omega)]; exact h)
    (fun j hj _ hp' => by
      refine Ev.step (fun _ => rfl) ?_
      refine ev_pos (by omega) (ev_pos (by omega) (ev_pos (by omega) (ev_pos (by omega) (ev_pos (by omega) (ev_pos ?_ (ev_some _))))))
      rw [str_iff]; exact Classical.byContradiction hp')
  by_cases h : ∀ j : Nat, j < i → (rd_T304 S j).f0 ≠ (rd_T304 S i).f0
  · exact g1 h
  · have h5 := g2 h
    rw [hbad h]
    exact h5
omit hp in
theorem specReg : Ev (fun k => spec_RegisterOk.f k S P) (decide (regP S P)) := by
  have bad : ¬ regP S P → Ev (fun _ => some false) (decide (regP S P)) := fun h => by rw [decide_eq_false h]; exact ev_some _
  have join : ∀ b : Bool, b = decide (¬ (S.length ≤ 20 ∧ P.length ≤ 400)) → Ev (fun k => spec_RegisterOk.j0 k b S P) (decide (regP S P)) := by
    intro b hb
    refine Ev.step (fun _ => rfl) ?_
    by_cases hq : S.length ≤ 20 ∧ P.length ≤ 400
    · have hbf : b = false := by rw [hb]; exact decide_eq_false (fun g => g hq)
      refine ev_neg (by simp [hbf]) ?_
      have step : ∀ (i : Nat) (r : Bool), i < S.length → ((serP S i ∧ ∀ k : Nat, k < P.length → (rd_T230 P k).f0 = i → numP S P i k) → Ev (fun k => spec_RegisterOk.l0 k ((i + 1 : Nat) : Int) S P) r) → (¬ (serP S i ∧ ∀ k : Nat, k < P.length → (rd_T230 P k).f0 = i → numP S P i k) → r = false) → Ev (fun k => spec_RegisterOk.l0 k i S P) r := by
        intro i r hi hr hbad
        have join2 : ∀ c : Bool, c = decide (¬ (nameP (rd_T304 S i).f0 ∧ (1 ≤ (rd_T304 S i).f1 ∧ (rd_T304 S i).f1 ≤ 8))) → Ev (fun k => spec_RegisterOk.j2 k i c S P) r := by
          intro c hc
          refine Ev.step (fun _ => rfl) ?_
          by_cases h1 : nameP (rd_T304 S i).f0 ∧ (1 ≤ (rd_T304 S i).f1 ∧ (rd_T304 S i).f1 ≤ 8)
          · have hcf : c = false := by rw [hc]; exact decide_eq_false (fun g => g h1)
            refine ev_neg (by simp [hcf]) ?_
            refine spec_apart S P hq.1 hq.2 i hi r (fun h2 => ?_) (fun h2 => hbad fun g => h2 g.1.2.2)
            exact spec_num S P hq.1 hq.2 i hi r (fun h3 => hr ⟨⟨h1.1, h1.2, h2⟩, h3⟩) (fun h3 => hbad fun g => h3 g.2)
          · have hct : c = true := by rw [hc, decide_eq_true_eq]; exact h1
            rw [hbad fun g => h1 ⟨g.1.1, g.1.2.1⟩]
            exact ev_pos hct (ev_some _)
        refine Ev.step (fun _ => rfl) ?_
        refine ev_pos (by omega) (ev_pos (by omega) (ev_bind (specName _ (hs i hi)) ?_))
        by_cases h1 : nameP (rd_T304 S i).f0
        · refine ev_pos (decide_eq_true h1) (ev_bind0 (l1In_eq _ _ _) (join2 _ ?_))
          by_cases h2 : 1 ≤ (rd_T304 S i).f1 ∧ (rd_T304 S i).f1 ≤ 8
          · rw [decide_eq_true h2]; symm
            rw [Bool.not_true, decide_eq_false_iff_not]
            exact fun g => g ⟨h1, h2⟩
          · rw [decide_eq_false h2]; symm
            rw [Bool.not_false, decide_eq_true_eq]
            exact fun g => h2 g.2
        · refine ev_neg (by rw [decide_eq_true_eq]; exact h1) (join2 true ?_)
          symm; rw [decide_eq_true_eq]; exact fun g => h1 g.1
      have last : Ev (fun k => spec_RegisterOk.l3 k 0 S P) (decide (∀ k : Nat, k < P.length → (0 ≤ (rd_T230 P k).f0 ∧ (rd_T230 P k).f0 ≤ (S.length : Int) - 1) ∧ (0 ≤ (rd_T230 P k).f2 ∧ (rd_T230 P k).f2 ≤ 40000))) := by
        have hw1 : wrap64 ((S.length : Int) - 1) = (S.length : Int) - 1 := wrap_id (by omega) (by omega)
        have hq1 := hq.1
        have hq2 := hq.2
        refine ev_loopB (F := fun k x => spec_RegisterOk.l3 k x S P) (n := P.length) ?_ ?_ ?_
        · intro _
          refine Ev.step (fun _ => rfl) ?_
          exact ev_neg (by omega) (ev_some _)
        · intro i r hi _ hp' h
          refine Ev.step (fun _ => rfl) ?_
          refine ev_pos (by omega) (ev_pos (by omega) ?_)
          rw [hw1, wrap_succ hi (by omega)]
          exact (ev_bind0 (l1In_eq _ _ _) (ev_pos (decide_eq_true hp'.1) (ev_bind0 (l2Day_eq _) (ev_pos (decide_eq_true hp'.2) h))))
        · intro i hi _ hp'
          refine Ev.step (fun _ => rfl) ?_
          refine ev_pos (by omega) (ev_pos (by omega) ?_)
          rw [hw1]
          refine (ev_bind0 (l1In_eq _ _ _) ?_)
          by_cases h1 : 0 ≤ (rd_T230 P i).f0 ∧ (rd_T230 P i).f0 ≤ (S.length : Int) - 1
          · exact ev_pos (decide_eq_true h1) (ev_bind0 (l2Day_eq _) (ev_neg (by rw [decide_eq_true_eq]; exact fun g => hp' ⟨h1, g⟩) (ev_some _)))
          · exact ev_neg (by rw [decide_eq_true_eq]; exact h1) (ev_some _)
      obtain ⟨g1, g2⟩ := ev_loop (F := fun k x => spec_RegisterOk.l0 k x S P) (n := S.length) (p := fun i => serP S i ∧ ∀ k : Nat, k < P.length → (rd_T230 P k).f0 = i → numP S P i k) (R := decide (∀ k : Nat, k < P.length → (0 ≤ (rd_T230 P k).f0 ∧ (rd_T230 P k).f0 ≤ (S.length : Int) - 1) ∧ (0 ≤ (rd_T230 P k).f2 ∧ (rd_T230 P k).f2 ≤ 40000))) (bad := false)
        (fun _ => by
          refine Ev.step (fun _ => rfl) ?_
          exact ev_neg (by omega) last)
        (fun i r hi _ hp' h => step i r hi (fun _ => h) (fun hn => absurd hp' hn))
        (fun i hi _ hp' => step i false hi (fun h => absurd h hp') (fun _ => rfl))
      by_cases h : ∀ i : Nat, i < S.length → (serP S i ∧ ∀ k : Nat, k < P.length → (rd_T230 P k).f0 = i → numP S P i k)
      · refine ev_eq (g1 h) ?_
        rw [decide_eq_decide]
        constructor
        · intro g
          refine ⟨hq, fun i hi => (h i hi).1, fun k hk => ?_⟩
          obtain ⟨g1, g2⟩ := g k hk
          obtain ⟨n, hn⟩ := Int.eq_ofNat_of_zero_le g1.1
          have h9 := (h n (by omega)).2 k hk hn
          rw [← hn] at h9
          exact ⟨⟨g1.1, by omega⟩, g2, h9⟩
        · intro g k hk
          obtain ⟨h1, h2, _⟩ := g.2.2 k hk
          exact ⟨⟨h1.1, by omega⟩, h2⟩
      · refine ev_eq (g2 h) ?_
        symm; rw [decide_eq_false_iff_not]
        intro g
        refine h fun i hi => ⟨g.2.1 i hi, fun k hk e => ?_⟩
        have h9 := (g.2.2 k hk).2.2
        rw [e] at h9
        exact h9
    · have hbt : b = true := by rw [hb, decide_eq_true_eq]; exact hq
      exact ev_pos hbt (bad fun g => hq g.1)
  unfold spec_RegisterOk.f
  by_cases h1 : (S.length : Int) > 20
  · refine ev_pos h1 (join true ?_)
    symm; rw [decide_eq_true_eq]; omega
  · refine ev_neg h1 (join _ ?_)
    rw [decide_eq_decide]; omega
end
end Go.Proofs.Ytnbecbgpefmcoaa.PFnExactVoid
