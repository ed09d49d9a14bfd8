import Derived.Test.YtadehdkmggpehaaUDrawFnMutualWhole
import Derived.Test.YtadehdkmggpehaaULinesFnMutualWhole
set_option linter.unusedVariables false
set_option linter.unusedSimpArgs false
namespace Go.Proofs.Ytadehdkmggpehaa.PFnMutualWhole
open Go Go.RowKit Go.Proofs.YtadehdkmggpehaaW.PrintWords Go.Proofs.YtadehdkmggpehaaW.PrintLast Go.Proofs.Ytadehdkmggpehaa.MapWords Go.Proofs.Ytadehdkmggpehaa.IterWords Go.Proofs.Ytadehdkmggpehaa.EvWords
open Classical
abbrev Cut := S93
def lexP (a b : Cut) : Prop := b.f1 < a.f1 ∨ (b.f1 = a.f1 ∧ a.f0 < b.f0)
def mrg : List Cut → List Cut → List Cut
  | [], ys => ys
  | x :: xs, [] => x :: xs
  | x :: xs, y :: ys => if y.f1 > x.f1 then y :: mrg (x :: xs) ys else x :: mrg xs (y :: ys)
theorem mrg_perm : ∀ (xs ys : List Cut), (mrg xs ys).Perm (xs ++ ys)
  | [], ys => by simp [mrg]
  | x :: xs, [] => by simp [mrg]
  | x :: xs, y :: ys => by
    unfold mrg
    split
    · exact ((mrg_perm (x :: xs) ys).cons y).trans List.perm_middle.symm
    · exact (mrg_perm xs (y :: ys)).cons x
theorem mrg_lex : ∀ (xs ys : List Cut), xs.Pairwise lexP → ys.Pairwise lexP → (∀ x ∈ xs, ∀ y ∈ ys, x.f0 < y.f0) → (mrg xs ys).Pairwise lexP
  | [], ys => fun _ h _ => by simpa [mrg] using h
  | x :: xs, [] => fun h _ _ => by simpa [mrg] using h
  | x :: xs, y :: ys => fun hx hy hc => by
    obtain ⟨hx1, hx2⟩ := List.pairwise_cons.1 hx
    obtain ⟨hy1, hy2⟩ := List.pairwise_cons.1 hy
    unfold mrg
    split
    · rename_i h
      refine List.pairwise_cons.2 ⟨fun z hz => ?_, mrg_lex (x :: xs) ys hx hy2 (fun a ha b hb => hc a ha b (List.mem_cons_of_mem _ hb))⟩
      rcases List.mem_append.1 ((mrg_perm (x :: xs) ys).mem_iff.1 hz) with h2 | h2
      · rcases List.mem_cons.1 h2 with h3 | h3
        · subst h3; exact .inl h
        · have := hx1 z h3
          unfold lexP at this ⊢
          omega
      · exact hy1 z h2
    · rename_i h
      refine List.pairwise_cons.2 ⟨fun z hz => ?_, mrg_lex xs (y :: ys) hx2 hy (fun a ha b hb => hc a (List.mem_cons_of_mem _ ha) b hb)⟩
      rcases List.mem_append.1 ((mrg_perm xs (y :: ys)).mem_iff.1 hz) with h2 | h2
      · exact hx1 z h2
      · have h4 := hc x (List.mem_cons_self ..) z h2
        rcases List.mem_cons.1 h2 with h3 | h3
        · subst h3
          unfold lexP
          omega
        · have := hy1 z h3
          unfold lexP at this ⊢
          omega
theorem set_mid {α : Type} (m : List α) (c : α) (t : List α) (x : α) : (m ++ c :: t).set m.length x = (m ++ [x]) ++ t := by
  induction m with
  | nil => rfl
  | cons a m ih => simp only [List.cons_append, List.length_cons, List.set_cons_succ, ih]
theorem rd_mid (p : List Cut) (x : Cut) (s : List Cut) (i : Int) (hi : i = (p.length : Int)) : rd_T93 (p ++ x :: s) i = x := by
  subst hi
  show (p ++ x :: s).getD ((p.length : Nat) : Int).toNat _ = x
  rw [Int.toNat_natCast, List.getD_eq_getElem?_getD, List.getElem?_append_right (Nat.le_refl _), Nat.sub_self]
  rfl
theorem cut_eta (x : Cut) : (⟨x.f0, x.f1⟩ : Cut) = x := by cases x; rfl
theorem len_mid {α : Type} (p : List α) (x : α) (s : List α) : (p ++ x :: s).length = p.length + s.length + 1 := by simp; omega
theorem mrg_loop (M : Nat) (hM : M ≤ 100000) : ∀ (d : Nat) (p1 s1 p2 s2 m t : List Cut), s1.length + s2.length = d → t.length = d → m.length = p1.length + p2.length → m.length + d = M →
    Ev (fun k => impl_cutOff.l0 k (m ++ t) (p1 ++ s1) (p2 ++ s2) (p1.length : Int) (p2.length : Int) (M : Int) (m.length : Int)) (m ++ mrg s1 s2) := by
  intro d
  induction d with
  | zero =>
    intro p1 s1 p2 s2 m t h1 h2 h3 h4
    have e1 : s1 = [] := List.length_eq_zero_iff.1 (by omega)
    have e2 : s2 = [] := List.length_eq_zero_iff.1 (by omega)
    have e3 : t = [] := List.length_eq_zero_iff.1 h2
    subst e1 e2 e3
    refine Ev.step (fun _ => rfl) ?_
    simp only [impl_cutOff.l0]
    exact ev_neg (by omega) (ev_eq (ev_some _) (by simp [mrg]))
  | succ d ih =>
    intro p1 s1 p2 s2 m t h1 h2 h3 h4
    obtain ⟨c, t, rfl⟩ : ∃ c t', t = c :: t' := by
      cases t with
      | nil => simp at h2
      | cons c t => exact ⟨c, t, rfl⟩
    simp only [List.length_cons] at h2
    have hw : ∀ q : Nat, q ≤ 100000 → wrap64 ((q : Int) + 1) = ((q + 1 : Nat) : Int) := fun q hq => by rw [wrap_id (by omega) (by omega)]; omega
    have hm := hw m.length (by omega)
    have hx0 : (m ++ c :: t).length = m.length + t.length + 1 := len_mid m c t
    refine Ev.step (fun _ => rfl) ?_
    simp only [impl_cutOff.l0]
    refine ev_pos (by omega) ?_
    cases s2 with
    | nil =>
      cases s1 with
      | nil => simp at h1
      | cons x s1 =>
        have l1 := len_mid p1 x s1
        simp only [List.length_cons, List.length_nil] at h1
        refine ev_pos (by simp) (ev_pos (by omega) (ev_pos (by omega) (ev_pos (by omega) (ev_pos (by omega) ?_))))
        rw [rd_mid p1 x s1 _ rfl, cut_eta, Int.toNat_natCast, set_mid, hm, hw p1.length (by omega)]
        have := ih (p1 ++ [x]) s1 p2 [] (m ++ [x]) t (by simp; omega) (by omega) (by simp; omega) (by simp; omega)
        simp only [List.append_assoc, List.singleton_append, List.length_append, List.length_cons, List.length_nil, List.append_nil] at this ⊢
        refine ev_eq this ?_
        cases s1 <;> simp [mrg]
    | cons y s2 =>
      have l2 := len_mid p2 y s2
      refine ev_neg (by omega) ?_
      have takeY : Ev (fun k => impl_cutOff.l0 k (m ++ y :: t) (p1 ++ s1) (p2 ++ y :: s2) (p1.length : Int) ((p2.length + 1 : Nat) : Int) (M : Int) ((m.length + 1 : Nat) : Int)) (m ++ y :: mrg s1 s2) := by
        have := ih p1 s1 (p2 ++ [y]) s2 (m ++ [y]) t (by simp only [List.length_cons] at h1; omega) (by omega) (by simp; omega) (by simp; omega)
        simpa only [List.append_assoc, List.singleton_append, List.length_append, List.length_cons, List.length_nil, List.nil_append, Nat.zero_add] using this
      cases s1 with
      | nil =>
        simp only [List.length_cons, List.length_nil] at h1
        refine ev_neg (by simp) (ev_pos (by omega) (ev_pos (by omega) (ev_pos (by omega) (ev_pos (by omega) ?_))))
        rw [rd_mid p2 y s2 _ rfl, cut_eta, Int.toNat_natCast, set_mid, hm, hw p2.length (by omega)]
        simp only [List.append_assoc, List.singleton_append]
        refine ev_eq takeY ?_
        cases s2 <;> simp [mrg]
      | cons x s1 =>
        have l1 := len_mid p1 x s1
        simp only [List.length_cons] at h1
        have hless : impl_Shares_1.f y.f0 y.f1 x.f0 x.f1 = some (decide (y.f1 > x.f1)) := rfl
        refine ev_pos (by omega) (ev_pos (by omega) (ev_pos (by omega) (ev_pos (by omega) ?_)))
        rw [rd_mid p2 y s2 _ rfl, rd_mid p1 x s1 _ rfl, cut_eta, cut_eta]
        refine ev_bind0 hless ?_
        by_cases hc : y.f1 > x.f1
        · refine ev_pos (decide_eq_true hc) (ev_pos (by omega) (ev_pos (by omega) ?_))
          rw [Int.toNat_natCast, set_mid, hm, hw p2.length (by omega)]
          simp only [List.append_assoc, List.singleton_append]
          refine ev_eq takeY ?_
          simp [mrg, hc]
        · refine ev_neg (by simpa using hc) (ev_pos (by omega) (ev_pos (by omega) ?_))
          rw [Int.toNat_natCast, set_mid, hm, hw p1.length (by omega)]
          have := ih (p1 ++ [x]) s1 p2 (y :: s2) (m ++ [x]) t (by simp only [List.length_cons]; omega) (by omega) (by simp; omega) (by simp; omega)
          simp only [List.append_assoc, List.singleton_append, List.length_append, List.length_cons, List.length_nil, List.nil_append, Nat.zero_add] at this ⊢
          refine ev_eq this ?_
          simp [mrg, hc]
theorem sort_ok : ∀ (n : Nat) (l : List Cut), l.length = n → n ≤ 1000 → l.Pairwise (fun a b => a.f0 < b.f0) → EvP (fun k => impl_cutOff.f k l ()) (fun r => r.Perm l ∧ r.Pairwise lexP) := by
  intro n
  induction n using Nat.strongRecOn with
  | _ n ih =>
    intro l hl hn hp
    refine evp_step (fun _ => rfl) ?_
    simp only [impl_cutOff.f]
    by_cases h2 : (l.length : Int) < 2
    · refine evp_pos h2 (evp_some ⟨List.Perm.refl _, ?_⟩)
      match l, h2 with
      | [], _ => exact List.Pairwise.nil
      | [a], _ => exact List.pairwise_singleton _ _
      | a :: b :: r, h => simp at h; omega
    · refine evp_neg h2 ?_
      obtain ⟨h, hh⟩ : ∃ h : Nat, wrap64 ((l.length : Int) / 2) = (h : Int) := ⟨l.length / 2, by rw [wrap_id (by omega) (by omega)]; omega⟩
      have hh2 : h = l.length / 2 := by rw [wrap_id (by omega) (by omega)] at hh; omega
      simp only [Option.bind_some, List.nil_append, hh, Int.toNat_natCast, List.length_nil, Nat.zero_add]
      have lt : (l.take h).length = h := by rw [List.length_take]; omega
      have ld : (l.drop h).length = l.length - h := List.length_drop ..
      have hpa : (l.take h ++ l.drop h).Pairwise (fun a b : Cut => a.f0 < b.f0) := by rw [List.take_append_drop]; exact hp
      obtain ⟨p1, p2, p3⟩ := List.pairwise_append.1 hpa
      refine evp_pos (by omega) (evp_pos (by omega) (evp_pos (by omega) (evp_pos (by omega) (evp_bind (ih h (by omega) (l.take h) lt (by omega) p1) (fun a ha => evp_bind (ih (l.length - h) (by omega) (l.drop h) ld (by omega) p2) (fun b hb => ?_))))))
      have la : a.length = h := by rw [ha.1.length_eq]; exact lt
      have lb : b.length = l.length - h := by rw [hb.1.length_eq]; exact ld
      have hm := mrg_loop l.length (by omega) l.length [] a [] b [] l (by omega) rfl rfl (by simp)
      simp only [List.nil_append, List.length_nil] at hm
      refine ⟨_, hm, (mrg_perm a b).trans (((ha.1.append hb.1)).trans (by rw [List.take_append_drop])), mrg_lex a b ha.2 hb.2 (fun x hx y hy => p3 x (ha.1.mem_iff.1 hx) y (hb.1.mem_iff.1 hy))⟩
end Go.Proofs.Ytadehdkmggpehaa.PFnMutualWhole

set_option linter.unusedVariables false
set_option linter.unusedSimpArgs false
namespace Go.Proofs.Ytadehdkmggpehaa.PFnMutualWhole
open Go Go.RowKit Go.Proofs.YtadehdkmggpehaaW.PrintWords Go.Proofs.YtadehdkmggpehaaW.PrintLast Go.Proofs.Ytadehdkmggpehaa.MapWords Go.Proofs.Ytadehdkmggpehaa.IterWords Go.Proofs.Ytadehdkmggpehaa.EvWords
open Classical
def ri (l : List Int) (i : Nat) : Int := l.getD i 0
theorem ri_rd (l : List Int) (i : Nat) : rd l (i : Int) = ri l i := rfl
theorem ri_set (l : List Int) (i j : Nat) (x : Int) (hi : i < l.length) : ri (l.set i x) j = if i = j then x else ri l j := by
  unfold ri
  simp only [List.getD_eq_getElem?_getD, List.getElem?_set]
  by_cases h : i = j
  · subst h; simp [hi]
  · simp [h]
theorem ri_ext {a b : List Int} (h : a.length = b.length) (k : ∀ j, j < b.length → ri a j = ri b j) : a = b := by
  apply List.ext_getElem h
  intro j h1 h2
  have := k j h2
  unfold ri at this
  rwa [List.getD_eq_getElem?_getD, List.getElem?_eq_getElem h1, List.getD_eq_getElem?_getD, List.getElem?_eq_getElem h2] at this
def sm (f : Nat → Int) : Nat → Int
  | 0 => 0
  | i + 1 => sm f i + f i
theorem sm_congr {f g : Nat → Int} : ∀ (n : Nat), (∀ j, j < n → f j = g j) → sm f n = sm g n
  | 0, _ => rfl
  | n + 1, h => by simp only [sm]; rw [sm_congr n (fun j hj => h j (by omega)), h n (by omega)]
theorem sm_one {f g : Nat → Int} (i : Nat) (x : Int) (hi : g i = f i + x) (hj : ∀ j, j ≠ i → g j = f j) : ∀ n, sm g n = sm f n + if i < n then x else 0
  | 0 => by simp [sm]
  | n + 1 => by
    simp only [sm]
    rw [sm_one i x hi hj n]
    by_cases h : n = i
    · subst h; rw [hi, if_neg (by omega), if_pos (by omega)]; omega
    · rw [hj n h]
      by_cases h2 : i < n
      · rw [if_pos h2, if_pos (by omega)]; omega
      · rw [if_neg h2, if_neg (by omega)]; omega
theorem sm_set (l : List Int) (i : Nat) (x : Int) (hi : i < l.length) (n : Nat) (hn : i < n) : sm (ri (l.set i x)) n = sm (ri l) n + (x - ri l i) := by
  rw [sm_one (f := ri l) (g := ri (l.set i x)) i (x - ri l i) (by rw [ri_set _ _ _ _ hi, if_pos rfl]; omega) (fun j hj => by rw [ri_set _ _ _ _ hi, if_neg (Ne.symm hj)]) n, if_pos hn]
theorem sm_bd {f : Nat → Int} {M : Int} (hM : 0 ≤ M) : ∀ (n : Nat), (∀ j, j < n → -M ≤ f j ∧ f j ≤ M) → -((n : Int) * M) ≤ sm f n ∧ sm f n ≤ (n : Int) * M
  | 0, _ => by simp [sm]
  | n + 1, h => by
    have h1 := sm_bd hM n (fun j hj => h j (by omega))
    have h2 := h n (by omega)
    have e : ((n + 1 : Nat) : Int) * M = (n : Int) * M + M := by rw [Int.natCast_add, Int.add_mul]; simp
    simp only [sm]
    omega
def bmp (one : Int) (p : Nat → Nat) (o : List Int) : Nat → List Int
  | 0 => o
  | s + 1 => (bmp one p o s).set (p s) (ri (bmp one p o s) (p s) + one)
def rst (p : Nat → Nat) (R : List Int) : Nat → List Int
  | 0 => R
  | s + 1 => (rst p R s).set (p s) (-1)
section
variable {one : Int} {p : Nat → Nat} {o R : List Int}
theorem bmp_len : ∀ s, (bmp one p o s).length = o.length
  | 0 => rfl
  | s + 1 => by simp [bmp, bmp_len s]
theorem rst_len : ∀ s, (rst p R s).length = R.length
  | 0 => rfl
  | s + 1 => by simp [rst, rst_len s]
theorem bmp_sum (h : ∀ s, s < o.length → p s < o.length) : ∀ s, s ≤ o.length → sm (ri (bmp one p o s)) o.length = sm (ri o) o.length + s * one
  | 0, _ => by simp [bmp]
  | s + 1, hs => by
    have hp := h s (by omega)
    simp only [bmp]
    rw [sm_set _ _ _ (by rw [bmp_len]; exact hp) _ hp, bmp_sum h s (by omega), Int.natCast_add, Int.add_mul]
    simp only [Int.natCast_one, Int.one_mul]
    omega
theorem bmp_bd {M : Int} (h1 : -1 ≤ one ∧ one ≤ 1) (h : ∀ s, s < o.length → p s < o.length) (ho : ∀ j, -M ≤ ri o j ∧ ri o j ≤ M) : ∀ s, s ≤ o.length → ∀ j, -(M + s) ≤ ri (bmp one p o s) j ∧ ri (bmp one p o s) j ≤ M + s
  | 0, _ => fun j => by have := ho j; simp only [bmp]; omega
  | s + 1, hs => fun j => by
    have hp := h s (by omega)
    have k1 := bmp_bd h1 h ho s (by omega) j
    have k2 := bmp_bd h1 h ho s (by omega) (p s)
    simp only [bmp]
    rw [ri_set _ _ _ _ (by rw [bmp_len]; exact hp)]
    split <;> omega
theorem rst_at (h : ∀ s, s < R.length → p s < R.length) (j : Nat) : ∀ s, s ≤ R.length → ((∃ t, t < s ∧ p t = j) → ri (rst p R s) j = -1) ∧ ((¬ ∃ t, t < s ∧ p t = j) → ri (rst p R s) j = ri R j)
  | 0, _ => ⟨fun ⟨t, ht, _⟩ => by omega, fun _ => rfl⟩
  | s + 1, hs => by
    obtain ⟨a, b⟩ := rst_at h j s (by omega)
    simp only [rst]
    rw [ri_set _ _ _ _ (by rw [rst_len]; exact h s (by omega))]
    by_cases hj : p s = j
    · rw [if_pos hj]
      exact ⟨fun _ => rfl, fun hn => absurd ⟨s, by omega, hj⟩ hn⟩
    · rw [if_neg hj]
      refine ⟨fun ⟨t, ht, e⟩ => a ⟨t, ?_, e⟩, fun hn => b (fun ⟨t, ht, e⟩ => hn ⟨t, by omega, e⟩)⟩
      rcases Nat.lt_succ_iff_lt_or_eq.1 ht with h2 | h2
      · exact h2
      · subst h2; exact absurd e hj
end
def fm (R : List Int) (n b : Nat) : Prop := b < n ∧ ∀ j, j < n → ri R j < ri R b ∨ (ri R j = ri R b ∧ b ≤ j)
theorem fm_one {R : List Int} {n b c : Nat} (h : fm R n b) (k : fm R n c) : b = c := by
  have h1 := h.2 c k.1
  have h2 := k.2 b h.1
  omega
theorem scan {out R : List Int} {v one : Int} {r : List Int} (hn : R.length ≤ 1000) (ho : out.length = R.length) (B : Nat) (hB : fm R R.length B)
    (hE : Ev (fun k => spec_Shares.l2 k (out.set B (wrap64 (ri out B + one))) (R.set B (-1)) (wrap64 (v - one)) one) r) :
    ∀ (d i b : Nat), i + d = R.length → fm R i b → Ev (fun k => spec_Shares.l3 k out R v one (b : Int) (i : Int)) r := by
  intro d
  induction d with
  | zero =>
    intro i b hi hb
    have e : i = R.length := by omega
    subst e
    have e2 := fm_one hb hB
    subst e2
    have hb1 := hb.1
    refine Ev.step (fun _ => rfl) ?_
    simp only [spec_Shares.l3, ri_rd, Int.toNat_natCast]
    exact ev_neg (by omega) (ev_pos (by omega) (ev_pos (by omega) (ev_pos (by omega) hE)))
  | succ d ih =>
    intro i b hi hb
    have hb1 := hb.1
    have hw : wrap64 ((i : Int) + 1) = ((i + 1 : Nat) : Int) := by rw [wrap_id (by omega) (by omega)]; omega
    refine Ev.step (fun _ => rfl) ?_
    simp only [spec_Shares.l3, ri_rd, hw]
    refine ev_pos (by omega) (ev_pos (by omega) (ev_pos (by omega) (ev_pos (by omega) ?_)))
    by_cases hc : ri R i > ri R b
    · refine ev_pos hc (ih (i + 1) i (by omega) ⟨by omega, fun j hj => ?_⟩)
      by_cases hji : j = i
      · subst hji; exact .inr ⟨rfl, Nat.le_refl _⟩
      · have := hb.2 j (by omega)
        omega
    · refine ev_neg hc (ih (i + 1) b (by omega) ⟨by omega, fun j hj => ?_⟩)
      by_cases hji : j = i
      · subst hji; omega
      · exact hb.2 j (by omega)
theorem spec_picks {Q R : List Int} {one : Int} {p : Nat → Nat} (h1 : one = 1 ∨ one = -1) (hn : R.length ≤ 1000) (ho : Q.length = R.length) (hp : ∀ s, s < R.length → p s < R.length) (hf : ∀ s, s < R.length → fm (rst p R s) R.length (p s))
    (hb : ∀ s j, s ≤ R.length → -9000000000000000000 ≤ ri (bmp one p Q s) j ∧ ri (bmp one p Q s) j ≤ 9000000000000000000) (m : Nat) (hm : m ≤ R.length) :
    ∀ (d s : Nat), s + d = m → Ev (fun k => spec_Shares.l2 k (bmp one p Q s) (rst p R s) ((d : Int) * one) one) (bmp one p Q m) := by
  intro d
  induction d with
  | zero =>
    intro s hs
    have e : s = m := by omega
    subst e
    refine Ev.step (fun _ => rfl) ?_
    simp only [spec_Shares.l2]
    exact ev_pos (by simp) (ev_some _)
  | succ d ih =>
    intro s hs
    have hps := hp s (by omega)
    have hfs := hf s (by omega)
    have hbs := hb s (p s) (by omega)
    have hne : ¬ (((d + 1 : Nat) : Int) * one = 0) := by rcases h1 with e | e <;> rw [e] <;> omega
    have hl := rst_len (p := p) (R := R) s
    have hq := bmp_len (one := one) (p := p) (o := Q) s
    refine Ev.step (fun _ => rfl) ?_
    simp only [spec_Shares.l2]
    refine ev_neg hne (scan (by omega) (by omega) (p s) (by rw [hl]; exact hfs) ?_ (R.length - 1) 1 0 (by omega) ⟨by omega, fun j hj => by
      have : j = 0 := by omega
      subst this
      exact .inr ⟨rfl, Nat.le_refl _⟩⟩)
    have e1 : wrap64 (ri (bmp one p Q s) (p s) + one) = ri (bmp one p Q s) (p s) + one := by rcases h1 with e | e <;> rw [e] at hbs ⊢ <;> exact wrap_id (by omega) (by omega)
    have e2 : wrap64 (((d + 1 : Nat) : Int) * one - one) = (d : Int) * one := by rcases h1 with e | e <;> rw [e] <;> rw [wrap_id (by omega) (by omega)] <;> omega
    rw [e1, e2]
    exact ih (s + 1) (by omega)
theorem impl_picks {Q : List Int} {r : List Cut} {one : Int} {p : Nat → Nat} (h1 : one = 1 ∨ one = -1) (hn : Q.length ≤ 1000) (hr : r.length = Q.length) (hp : ∀ s, s < Q.length → p s < Q.length ∧ (rd_T93 r (s : Int)).f0 = (p s : Int))
    (hb : ∀ s j, s ≤ Q.length → -9000000000000000000 ≤ ri (bmp one p Q s) j ∧ ri (bmp one p Q s) j ≤ 9000000000000000000) (m : Nat) (hm : m ≤ Q.length) :
    ∀ (d s : Nat), s + d = m → Ev (fun k => impl_Shares.l2 k (bmp one p Q s) r (m : Int) one (s : Int)) (bmp one p Q m) := by
  intro d
  induction d with
  | zero =>
    intro s hs
    have e : s = m := by omega
    subst e
    refine Ev.step (fun _ => rfl) ?_
    simp only [impl_Shares.l2]
    exact ev_neg (by omega) (ev_some _)
  | succ d ih =>
    intro s hs
    obtain ⟨hps, hrs⟩ := hp s (by omega)
    have hbs := hb s (p s) (by omega)
    have hq := bmp_len (one := one) (p := p) (o := Q) s
    have hw : wrap64 ((s : Int) + 1) = ((s + 1 : Nat) : Int) := by rw [wrap_id (by omega) (by omega)]; omega
    have e1 : wrap64 (ri (bmp one p Q s) (p s) + one) = ri (bmp one p Q s) (p s) + one := by rcases h1 with e | e <;> rw [e] at hbs ⊢ <;> exact wrap_id (by omega) (by omega)
    refine Ev.step (fun _ => rfl) ?_
    simp only [impl_Shares.l2, hrs, ri_rd, Int.toNat_natCast, e1, hw]
    exact ev_pos (by omega) (ev_pos (by omega) (ev_pos (by omega) (ev_pos (by omega) (ev_pos (by omega) (ih (s + 1) (by omega))))))
end Go.Proofs.Ytadehdkmggpehaa.PFnMutualWhole
