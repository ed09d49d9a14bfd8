import Derived.Test.YtfkakbpjddgmeaaHSortFnHandedOn
set_option linter.unusedVariables false
set_option linter.unusedSimpArgs false
namespace Go.Proofs.Ytfkakbpjddgmeaa.PFnHandedOn
open Go Go.RowKit Go.Proofs.YtfkakbpjddgmeaaW.PrintWords Go.Proofs.YtfkakbpjddgmeaaW.PrintLast Go.Proofs.Ytfkakbpjddgmeaa.MapWords Go.Proofs.Ytfkakbpjddgmeaa.IterWords Go.Proofs.Ytfkakbpjddgmeaa.EvWords
open Classical
def ri (l : List Int) (i : Nat) : Int := l.getD i 0
theorem ri_rd (l : List Int) (i : Nat) : rd l (i : Int) = ri l i := rfl
theorem ri_set (l : List Int) (i j : Nat) (x : Int) (hi : i < l.length) : ri (l.set i x) j = if i = j then x else ri l j := by
  unfold ri
  simp only [List.getD_eq_getElem?_getD, List.getElem?_set]
  by_cases h : i = j
  · subst h; simp [hi]
  · simp [h]
theorem ri_ext {a b : List Int} (h : a.length = b.length) (k : ∀ j, j < b.length → ri a j = ri b j) : a = b := by
  apply List.ext_getElem h
  intro j h1 h2
  have := k j h2
  unfold ri at this
  rwa [List.getD_eq_getElem?_getD, List.getElem?_eq_getElem h1, List.getD_eq_getElem?_getD, List.getElem?_eq_getElem h2] at this
def sm (f : Nat → Int) : Nat → Int
  | 0 => 0
  | i + 1 => sm f i + f i
theorem sm_congr {f g : Nat → Int} : ∀ (n : Nat), (∀ j, j < n → f j = g j) → sm f n = sm g n
  | 0, _ => rfl
  | n + 1, h => by simp only [sm]; rw [sm_congr n (fun j hj => h j (by omega)), h n (by omega)]
theorem sm_one {f g : Nat → Int} (i : Nat) (x : Int) (hi : g i = f i + x) (hj : ∀ j, j ≠ i → g j = f j) : ∀ n, sm g n = sm f n + if i < n then x else 0
  | 0 => by simp [sm]
  | n + 1 => by
    simp only [sm]
    rw [sm_one i x hi hj n]
    by_cases h : n = i
    · subst h; rw [hi, if_neg (by omega), if_pos (by omega)]; omega
    · rw [hj n h]
      by_cases h2 : i < n
      · rw [if_pos h2, if_pos (by omega)]; omega
      · rw [if_neg h2, if_neg (by omega)]; omega
theorem sm_set (l : List Int) (i : Nat) (x : Int) (hi : i < l.length) (n : Nat) (hn : i < n) : sm (ri (l.set i x)) n = sm (ri l) n + (x - ri l i) := by
  rw [sm_one (f := ri l) (g := ri (l.set i x)) i (x - ri l i) (by rw [ri_set _ _ _ _ hi, if_pos rfl]; omega) (fun j hj => by rw [ri_set _ _ _ _ hi, if_neg (Ne.symm hj)]) n, if_pos hn]
theorem sm_bd {f : Nat → Int} {M : Int} (hM : 0 ≤ M) : ∀ (n : Nat), (∀ j, j < n → -M ≤ f j ∧ f j ≤ M) → -((n : Int) * M) ≤ sm f n ∧ sm f n ≤ (n : Int) * M
  | 0, _ => by simp [sm]
  | n + 1, h => by
    have h1 := sm_bd hM n (fun j hj => h j (by omega))
    have h2 := h n (by omega)
    have e : ((n + 1 : Nat) : Int) * M = (n : Int) * M + M := by rw [Int.natCast_add, Int.add_mul]; simp
    simp only [sm]
    omega
def bmp (one : Int) (p : Nat → Nat) (o : List Int) : Nat → List Int
  | 0 => o
  | s + 1 => (bmp one p o s).set (p s) (ri (bmp one p o s) (p s) + one)
def rst (p : Nat → Nat) (R : List Int) : Nat → List Int
  | 0 => R
  | s + 1 => (rst p R s).set (p s) (-1)
section
variable {one : Int} {p : Nat → Nat} {o R : List Int}
theorem bmp_len : ∀ s, (bmp one p o s).length = o.length
  | 0 => rfl
  | s + 1 => by simp [bmp, bmp_len s]
theorem rst_len : ∀ s, (rst p R s).length = R.length
  | 0 => rfl
  | s + 1 => by simp [rst, rst_len s]
theorem bmp_sum (h : ∀ s, s < o.length → p s < o.length) : ∀ s, s ≤ o.length → sm (ri (bmp one p o s)) o.length = sm (ri o) o.length + s * one
  | 0, _ => by simp [bmp]
  | s + 1, hs => by
    have hp := h s (by omega)
    simp only [bmp]
    rw [sm_set _ _ _ (by rw [bmp_len]; exact hp) _ hp, bmp_sum h s (by omega), Int.natCast_add, Int.add_mul]
    simp only [Int.natCast_one, Int.one_mul]
    omega
theorem bmp_bd {M : Int} (h1 : -1 ≤ one ∧ one ≤ 1) (h : ∀ s, s < o.length → p s < o.length) (ho : ∀ j, -M ≤ ri o j ∧ ri o j ≤ M) : ∀ s, s ≤ o.length → ∀ j, -(M + s) ≤ ri (bmp one p o s) j ∧ ri (bmp one p o s) j ≤ M + s
  | 0, _ => fun j => by have := ho j; simp only [bmp]; omega
  | s + 1, hs => fun j => by
    have hp := h s (by omega)
    have k1 := bmp_bd h1 h ho s (by omega) j
    have k2 := bmp_bd h1 h ho s (by omega) (p s)
    simp only [bmp]
    rw [ri_set _ _ _ _ (by rw [bmp_len]; exact hp)]
    split <;> omega
theorem rst_at (h : ∀ s, s < R.length → p s < R.length) (j : Nat) : ∀ s, s ≤ R.length → ((∃ t, t < s ∧ p t = j) → ri (rst p R s) j = -1) ∧ ((¬ ∃ t, t < s ∧ p t = j) → ri (rst p R s) j = ri R j)
  | 0, _ => ⟨fun ⟨t, ht, _⟩ => by omega, fun _ => rfl⟩
  | s + 1, hs => by
    obtain ⟨a, b⟩ := rst_at h j s (by omega)
    simp only [rst]
    rw [ri_set _ _ _ _ (by rw [rst_len]; exact h s (by omega))]
    by_cases hj : p s = j
    · rw [if_pos hj]
      exact ⟨fun _ => rfl, fun hn => absurd ⟨s, by omega, hj⟩ hn⟩
    · rw [if_neg hj]
      refine ⟨fun ⟨t, ht, e⟩ => a ⟨t, ?_, e⟩, fun hn => b (fun ⟨t, ht, e⟩ => hn ⟨t, by omega, e⟩)⟩
      rcases Nat.lt_succ_iff_lt_or_eq.1 ht with h2 | h2
      · exact h2
      · subst h2; exact absurd e hj
end
def fm (R : List Int) (n b : Nat) : Prop := b < n ∧ ∀ j, j < n → ri R j < ri R b ∨ (ri R j = ri R b ∧ b ≤ j)
theorem fm_one {R : List Int} {n b c : Nat} (h : fm R n b) (k : fm R n c) : b = c := by
  have h1 := h.2 c k.1
  have h2 := k.2 b h.1
  omega
theorem scan {out R : List Int} {v one : Int} {r : List Int} (hn : R.length ≤ 1000) (ho : out.length = R.length) (B : Nat) (hB : fm R R.length B)
    (hE : Ev (fun k => spec_Shares.l2 k (out.set B (wrap64 (ri out B + one))) (R.set B (-1)) (wrap64 (v - one)) one) r) :
    ∀ (d i b : Nat), i + d = R.length → fm R i b → Ev (fun k => spec_Shares.l3 k out R v one (b : Int) (i : Int)) r := by
  intro d
  induction d with
  | zero =>
    intro i b hi hb
    have e : i = R.length := by omega
    subst e
    have e2 := fm_one hb hB
    subst e2
    have hb1 := hb.1
    refine Ev.step (fun _ => rfl) ?_
    simp only [spec_Shares.l3, ri_rd, Int.toNat_natCast]
    exact ev_neg (by omega) (ev_pos (by omega) (ev_pos (by omega) (ev_pos (by omega) hE)))
  | succ d ih =>
    intro i b hi hb
    have hb1 := hb.1
    have hw : wrap64 ((i : Int) + 1) = ((i + 1 : Nat) : Int) := by rw [wrap_id (by omega) (by omega)]; omega
    refine Ev.step (fun _ => rfl) ?_
    simp only [spec_Shares.l3, ri_rd, hw]
    refine ev_pos (by omega) (ev_pos (by omega) (ev_pos (by omega) (ev_pos (by omega) ?_)))
    by_cases hc : ri R i > ri R b
    · refine ev_pos hc (ih (i + 1) i (by omega) ⟨by omega, fun j hj => ?_⟩)
      by_cases hji : j = i
      · subst hji; exact .inr ⟨rfl, Nat.le_refl _⟩
      · have := hb.2 j (by omega)
        omega
    · refine ev_neg hc (ih (i + 1) b (by omega) ⟨by omega, fun j hj => ?_⟩)
      by_cases hji : j = i
      · subst hji; omega
      · exact hb.2 j (by omega)
theorem spec_picks {Q R : List Int} {one : Int} {p : Nat → Nat} (h1 : one = 1 ∨ one = -1) (hn : R.length ≤ 1000) (ho : Q.length = R.length) (hp : ∀ s, s < R.length → p s < R.length) (hf : ∀ s, s < R.length → fm (rst p R s) R.length (p s))
    (hb : ∀ s j, s ≤ R.length → -9000000000000000000 ≤ ri (bmp one p Q s) j ∧ ri (bmp one p Q s) j ≤ 9000000000000000000) (m : Nat) (hm : m ≤ R.length) :
    ∀ (d s : Nat), s + d = m → Ev (fun k => spec_Shares.l2 k (bmp one p Q s) (rst p R s) ((d : Int) * one) one) (bmp one p Q m) := by
  intro d
  induction d with
  | zero =>
    intro s hs
    have e : s = m := by omega
    subst e
    refine Ev.step (fun _ => rfl) ?_
    simp only [spec_Shares.l2]
    exact ev_pos (by simp) (ev_some _)
  | succ d ih =>
    intro s hs
    have hps := hp s (by omega)
    have hfs := hf s (by omega)
    have hbs := hb s (p s) (by omega)
    have hne : ¬ (((d + 1 : Nat) : Int) * one = 0) := by rcases h1 with e | e <;> rw [e] <;> omega
    have hl := rst_len (p := p) (R := R) s
    have hq := bmp_len (one := one) (p := p) (o := Q) s
    refine Ev.step (fun _ => rfl) ?_
    simp only [spec_Shares.l2]
    refine ev_neg hne (scan (by omega) (by omega) (p s) (by rw [hl]; exact hfs) ?_ (R.length - 1) 1 0 (by omega) ⟨by omega, fun j hj => by
      have : j = 0 := by omega
      subst this
      exact .inr ⟨rfl, Nat.le_refl _⟩⟩)
    have e1 : wrap64 (ri (bmp one p Q s) (p s) + one) = ri (bmp one p Q s) (p s) + one := by rcases h1 with e | e <;> rw [e] at hbs ⊢ <;> exact wrap_id (by omega) (by omega)
    have e2 : wrap64 (((d + 1 : Nat) : Int) * one - one) = (d : Int) * one := by rcases h1 with e | e <;> rw [e] <;> rw [wrap_id (by omega) (by omega)] <;> omega
    rw [e1, e2]
    exact ih (s + 1) (by omega)
theorem impl_picks {Q : List Int} {r : List Cut} {one : Int} {p : Nat → Nat} (h1 : one = 1 ∨ one = -1) (hn : Q.length ≤ 1000) (hr : r.length = Q.length) (hp : ∀ s, s < Q.length → p s < Q.length ∧ (rd_T103 r (s : Int)).f0 = (p s : Int))
    (hb : ∀ s j, s ≤ Q.length → -9000000000000000000 ≤ ri (bmp one p Q s) j ∧ ri (bmp one p Q s) j ≤ 9000000000000000000) (m : Nat) (hm : m ≤ Q.length) :
    ∀ (d s : Nat), s + d = m → Ev (fun k => impl_Shares.l2 k (bmp one p Q s) r (m : Int) one (s : Int)) (bmp one p Q m) := by
  intro d
  induction d with
  | zero =>
    intro s hs
    have e : s = m := by omega
    subst e
    refine Ev.step (fun _ => rfl) ?_
    simp only [impl_Shares.l2]
    exact ev_neg (by omega) (ev_some _)
  | succ d ih =>
    intro s hs
    obtain ⟨hps, hrs⟩ := hp s (by omega)
    have hbs := hb s (p s) (by omega)
    have hq := bmp_len (one := one) (p := p) (o := Q) s
    have hw : wrap64 ((s : Int) + 1) = ((s + 1 : Nat) : Int) := by rw [wrap_id (by omega) (by omega)]; omega
    have e1 : wrap64 (ri (bmp one p Q s) (p s) + one) = ri (bmp one p Q s) (p s) + one := by rcases h1 with e | e <;> rw [e] at hbs ⊢ <;> exact wrap_id (by omega) (by omega)
    refine Ev.step (fun _ => rfl) ?_
    simp only [impl_Shares.l2, hrs, ri_rd, Int.toNat_natCast, e1, hw]
    exact ev_pos (by omega) (ev_pos (by omega) (ev_pos (by omega) (ev_pos (by omega) (ev_pos (by omega) (ih (s + 1) (by omega))))))
end Go.Proofs.Ytfkakbpjddgmeaa.PFnHandedOn
