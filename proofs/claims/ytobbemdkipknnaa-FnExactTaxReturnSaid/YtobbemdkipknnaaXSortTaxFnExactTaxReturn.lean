import Derived.Test.YtobbemdkipknnaaXEvWords
import Derived.Test.YtobbemdkipknnaaXMapWords
import Derived.Test.YtobbemdkipknnaaXArrWords
import Derived.Test.YtobbemdkipknnaaXPFnExactTaxReturnx4
set_option linter.unusedVariables false
set_option linter.unusedSimpArgs false
namespace Go.Proofs.Ytobbemdkipknnaa.PFnExactTaxReturn.SortT
open Go Go.RowKit Go.Proofs.YtobbemdkipknnaaW.PrintWords Go.Proofs.YtobbemdkipknnaaW.PrintLast Go.Proofs.Ytobbemdkipknnaa.MapWords Go.Proofs.Ytobbemdkipknnaa.EvWords
abbrev Tl := S59
theorem bl_irr : ∀ a : List UInt8, Op.bytesLess a a = false
  | [] => rfl
  | x :: a => by
    show (decide (x < x) || (x == x && Op.bytesLess a a)) = false
    rw [bl_irr a]
    simp
theorem bl_trans : ∀ a b c : List UInt8, Op.bytesLess a b = true → Op.bytesLess b c = true → Op.bytesLess a c = true
  | _, [], _, h, _ => by cases ‹List UInt8› <;> simp [Op.bytesLess] at h
  | _, _ :: _, [], _, h => by simp [Op.bytesLess] at h
  | [], _ :: _, _ :: _, _, _ => rfl
  | x :: a, y :: b, z :: c, h1, h2 => by
    simp only [Op.bytesLess, Bool.or_eq_true, Bool.and_eq_true, decide_eq_true_eq, beq_iff_eq] at h1 h2 ⊢
    rcases h1 with h1 | ⟨rfl, h1⟩
    · rcases h2 with h2 | ⟨rfl, _⟩
      · exact .inl (UInt8.lt_trans h1 h2)
      · exact .inl h1
    · rcases h2 with h2 | ⟨rfl, h2⟩
      · exact .inl h2
      · exact .inr ⟨rfl, bl_trans a b c h1 h2⟩
theorem bl_tot : ∀ a b : List UInt8, a ≠ b → Op.bytesLess a b = false → Op.bytesLess b a = true
  | [], [], h, _ => absurd rfl h
  | [], _ :: _, _, h => by simp [Op.bytesLess] at h
  | _ :: _, [], _, _ => rfl
  | x :: a, y :: b, h, h1 => by
    simp only [Op.bytesLess, Bool.or_eq_false_iff, Bool.and_eq_false_iff, decide_eq_false_iff_not, Bool.or_eq_true, Bool.and_eq_true, decide_eq_true_eq, beq_iff_eq, beq_eq_false_iff_ne] at h1 ⊢
    obtain ⟨h2, h3⟩ := h1
    by_cases e : x = y
    · subst e
      refine .inr ⟨rfl, bl_tot a b (fun e => h (by rw [e])) ?_⟩
      rcases h3 with h3 | h3
      · exact absurd rfl h3
      · exact h3
    · refine .inl ?_
      have h2' := UInt8.not_lt.1 h2
      exact UInt8.lt_of_le_of_ne h2' (fun e2 => e e2.symm)
theorem toList_inj {a b : ByteArray} (h : a.toList = b.toList) : a = b := by
  have e : ∀ x : ByteArray, x.toList = x.data.toList := fun x => ByteArray.toList_eq x
  rw [e, e] at h
  cases a; cases b
  simp only [ByteArray.mk.injEq]
  exact Array.toList_inj.1 h
def ltC (a b : Tl) : Prop := Op.bytesLess a.f0.toList b.f0.toList = true
theorem lt_or {a b : Tl} (h : a.f0 ≠ b.f0) (hn : ¬ ltC a b) : ltC b a := bl_tot _ _ (fun e => h (toList_inj e)) (by simpa [ltC] using hn)
theorem lt_trans {a b c : Tl} (h : ltC a b) (k : ltC b c) : ltC a c := bl_trans _ _ _ h k
theorem lt_ne {a b : Tl} (h : ltC a b) : a ≠ b := fun e => by
  subst e
  unfold ltC at h
  rw [bl_irr] at h
  cases h
theorem lt_no {a b : Tl} (h : ltC a b) (k : ltC b a) : False := lt_ne (lt_trans h k) rfl
open Classical in
noncomputable def mrg : List Tl → List Tl → List Tl
  | [], ys => ys
  | x :: xs, [] => x :: xs
  | x :: xs, y :: ys => if ltC y x then y :: mrg (x :: xs) ys else x :: mrg xs (y :: ys)
open Classical in
theorem mrg_perm : ∀ (xs ys : List Tl), (mrg xs ys).Perm (xs ++ ys)
  | [], ys => by simp [mrg]
  | x :: xs, [] => by simp [mrg]
  | x :: xs, y :: ys => by
    unfold mrg
    split
    · exact ((mrg_perm (x :: xs) ys).cons y).trans List.perm_middle.symm
    · exact (mrg_perm xs (y :: ys)).cons x
open Classical in
theorem mrg_lt : ∀ (xs ys : List Tl), xs.Pairwise ltC → ys.Pairwise ltC → (∀ x ∈ xs, ∀ y ∈ ys, x.f0 ≠ y.f0) → (mrg xs ys).Pairwise ltC
  | [], ys => fun _ h _ => by simpa [mrg] using h
  | x :: xs, [] => fun h _ _ => by simpa [mrg] using h
  | x :: xs, y :: ys => fun hx hy hc => by
    obtain ⟨hx1, hx2⟩ := List.pairwise_cons.1 hx
    obtain ⟨hy1, hy2⟩ := List.pairwise_cons.1 hy
    unfold mrg
    split
    · rename_i h
      refine List.pairwise_cons.2 ⟨fun z hz => ?_, mrg_lt (x :: xs) ys hx hy2 (fun a ha b hb => hc a ha b (List.mem_cons_of_mem _ hb))⟩
      rcases List.mem_append.1 ((mrg_perm (x :: xs) ys).mem_iff.1 hz) with h2 | h2
      · rcases List.mem_cons.1 h2 with h3 | h3
        · subst h3; exact h
        · exact lt_trans h (hx1 z h3)
      · exact hy1 z h2
    · rename_i h
      have h' : ltC x y := lt_or (fun e => hc x (List.mem_cons_self ..) y (List.mem_cons_self ..) e.symm) h
      refine List.pairwise_cons.2 ⟨fun z hz => ?_, mrg_lt xs (y :: ys) hx2 hy (fun a ha b hb => hc a (List.mem_cons_of_mem _ ha) b hb)⟩
      rcases List.mem_append.1 ((mrg_perm xs (y :: ys)).mem_iff.1 hz) with h2 | h2
      · exact hx1 z h2
      · rcases List.mem_cons.1 h2 with h3 | h3
        · subst h3; exact h'
        · exact lt_trans h' (hy1 z h3)
theorem set_mid {α : Type} (m : List α) (c : α) (t : List α) (x : α) : (m ++ c :: t).set m.length x = (m ++ [x]) ++ t := by
  induction m with
  | nil => rfl
  | cons a m ih => simp only [List.cons_append, List.length_cons, List.set_cons_succ, ih]
theorem rd_mid (p : List Tl) (x : Tl) (s : List Tl) (i : Int) (hi : i = (p.length : Int)) : rd_T59 (p ++ x :: s) i = x := by
  subst hi
  show (p ++ x :: s).getD ((p.length : Nat) : Int).toNat _ = x
  rw [Int.toNat_natCast, List.getD_eq_getElem?_getD, List.getElem?_append_right (Nat.le_refl _), Nat.sub_self]
  rfl
theorem eta (x : Tl) : (⟨x.f0, x.f1, x.f2, x.f3⟩ : Tl) = x := by cases x; rfl
theorem len_mid {α : Type} (p : List α) (x : α) (s : List α) : (p ++ x :: s).length = p.length + s.length + 1 := by simp; omega
open Classical in
theorem mrg_loop (M : Nat) (hM : M ≤ 100000) : ∀ (d : Nat) (p1 s1 p2 s2 m t : List Tl), s1.length + s2.length = d → t.length = d → m.length = p1.length + p2.length → m.length + d = M →
    Ev (fun k => impl_TaxLine.l0 k (m ++ t) (p1 ++ s1) (p2 ++ s2) (p1.length : Int) (p2.length : Int) (M : Int) (m.length : Int)) (m ++ mrg s1 s2) := by
  intro d
  induction d with
  | zero =>
    intro p1 s1 p2 s2 m t h1 h2 h3 h4
    have e1 : s1 = [] := List.length_eq_zero_iff.1 (by omega)
    have e2 : s2 = [] := List.length_eq_zero_iff.1 (by omega)
    have e3 : t = [] := List.length_eq_zero_iff.1 h2
    subst e1 e2 e3
    refine Ev.step (fun _ => rfl) ?_
    simp only [impl_TaxLine.l0]
    exact ev_neg (by omega) (ev_eq (ev_some _) (by simp [mrg]))
  | succ d ih =>
    intro p1 s1 p2 s2 m t h1 h2 h3 h4
    obtain ⟨c, t, rfl⟩ : ∃ c t', t = c :: t' := by
      cases t with
      | nil => simp at h2
      | cons c t => exact ⟨c, t, rfl⟩
    simp only [List.length_cons] at h2
    have hw : ∀ q : Nat, q ≤ 100000 → wrap64 ((q : Int) + 1) = ((q + 1 : Nat) : Int) := fun q hq => by rw [wrap_id (by omega) (by omega)]; omega
    have hm := hw m.length (by omega)
    have hx0 : (m ++ c :: t).length = m.length + t.length + 1 := len_mid m c t
    refine Ev.step (fun _ => rfl) ?_
    simp only [impl_TaxLine.l0]
    refine ev_pos (by omega) ?_
    cases s2 with
    | nil =>
      cases s1 with
      | nil => simp at h1
      | cons x s1 =>
        have l1 := len_mid p1 x s1
        simp only [List.length_cons, List.length_nil] at h1
        refine ev_pos (by simp) (ev_pos (by omega) (ev_pos (by omega) (ev_pos (by omega) (ev_pos (by omega) ?_))))
        rw [rd_mid p1 x s1 _ rfl, eta, Int.toNat_natCast, set_mid, hm, hw p1.length (by omega)]
        have := ih (p1 ++ [x]) s1 p2 [] (m ++ [x]) t (by simp; omega) (by omega) (by simp; omega) (by simp; omega)
        simp only [List.append_assoc, List.singleton_append, List.length_append, List.length_cons, List.length_nil, List.append_nil] at this ⊢
        refine ev_eq this ?_
        cases s1 <;> simp [mrg]
    | cons y s2 =>
      have l2 := len_mid p2 y s2
      refine ev_neg (by omega) ?_
      have takeY : Ev (fun k => impl_TaxLine.l0 k (m ++ y :: t) (p1 ++ s1) (p2 ++ y :: s2) (p1.length : Int) ((p2.length + 1 : Nat) : Int) (M : Int) ((m.length + 1 : Nat) : Int)) (m ++ y :: mrg s1 s2) := by
        have := ih p1 s1 (p2 ++ [y]) s2 (m ++ [y]) t (by simp only [List.length_cons] at h1; omega) (by omega) (by simp; omega) (by simp; omega)
        simpa only [List.append_assoc, List.singleton_append, List.length_append, List.length_cons, List.length_nil, List.nil_append, Nat.zero_add] using this
      cases s1 with
      | nil =>
        simp only [List.length_cons, List.length_nil] at h1
        refine ev_neg (by simp) (ev_pos (by omega) (ev_pos (by omega) (ev_pos (by omega) (ev_pos (by omega) ?_))))
        rw [rd_mid p2 y s2 _ rfl, eta, Int.toNat_natCast, set_mid, hm, hw p2.length (by omega)]
        simp only [List.append_assoc, List.singleton_append]
        refine ev_eq takeY ?_
        cases s2 <;> simp [mrg]
      | cons x s1 =>
        have l1 := len_mid p1 x s1
        simp only [List.length_cons] at h1
        have hless : impl_TaxReturn_1.f y.f0 y.f1 y.f2 y.f3 x.f0 x.f1 x.f2 x.f3 = some (Op.bytesLess y.f0.toList x.f0.toList) := rfl
        refine ev_pos (by omega) (ev_pos (by omega) (ev_pos (by omega) (ev_pos (by omega) ?_)))
        rw [rd_mid p2 y s2 _ rfl, rd_mid p1 x s1 _ rfl, eta, eta]
        refine ev_bind0 hless ?_
        by_cases hc : ltC y x
        · refine ev_pos hc (ev_pos (by omega) (ev_pos (by omega) ?_))
          rw [Int.toNat_natCast, set_mid, hm, hw p2.length (by omega)]
          simp only [List.append_assoc, List.singleton_append]
          refine ev_eq takeY ?_
          simp [mrg, hc]
        · refine ev_neg hc (ev_pos (by omega) (ev_pos (by omega) ?_))
          rw [Int.toNat_natCast, set_mid, hm, hw p1.length (by omega)]
          have := ih (p1 ++ [x]) s1 p2 (y :: s2) (m ++ [x]) t (by simp only [List.length_cons]; omega) (by omega) (by simp; omega) (by simp; omega)
          simp only [List.append_assoc, List.singleton_append, List.length_append, List.length_cons, List.length_nil, List.nil_append, Nat.zero_add] at this ⊢
          refine ev_eq this ?_
          simp [mrg, hc]
theorem sort_ok : ∀ (n : Nat) (l : List Tl), l.length = n → n ≤ 100000 → l.Pairwise (fun a b => a.f0 ≠ b.f0) → ∃ r, Ev (fun k => impl_TaxLine.f k l ()) r ∧ r.Perm l ∧ r.Pairwise ltC := by
  intro n
  induction n using Nat.strongRecOn with
  | _ n ih =>
    intro l hl hn hp
    by_cases h2 : (l.length : Int) < 2
    · refine ⟨l, Ev.step (fun _ => rfl) ?_, List.Perm.refl _, ?_⟩
      · simp only [impl_TaxLine.f]
        exact ev_pos h2 (ev_some _)
      · match l, h2 with
        | [], _ => exact List.Pairwise.nil
        | [a], _ => exact List.pairwise_singleton _ _
        | a :: b :: r, h => simp at h; omega
    · obtain ⟨h, hh⟩ : ∃ h : Nat, wrap64 ((l.length : Int) / 2) = (h : Int) := ⟨l.length / 2, by rw [wrap_id (by omega) (by omega)]; omega⟩
      have hh2 : h = l.length / 2 := by rw [wrap_id (by omega) (by omega)] at hh; omega
      have lt : (l.take h).length = h := by rw [List.length_take]; omega
      have ld : (l.drop h).length = l.length - h := List.length_drop ..
      have hpa : (l.take h ++ l.drop h).Pairwise (fun a b : Tl => a.f0 ≠ b.f0) := by rw [List.take_append_drop]; exact hp
      obtain ⟨p1, p2, p3⟩ := List.pairwise_append.1 hpa
      obtain ⟨a, ha1, ha2, ha3⟩ := ih h (by omega) (l.take h) lt (by omega) p1
      obtain ⟨b, hb1, hb2, hb3⟩ := ih (l.length - h) (by omega) (l.drop h) ld (by omega) p2
      have la : a.length = h := by rw [ha2.length_eq]; exact lt
      have lb : b.length = l.length - h := by rw [hb2.length_eq]; exact ld
      have hm := mrg_loop l.length (by omega) l.length [] a [] b [] l (by omega) rfl rfl (by simp)
      simp only [List.nil_append, List.length_nil] at hm
      refine ⟨mrg a b, Ev.step (fun _ => rfl) ?_, (mrg_perm a b).trans (((ha2.append hb2)).trans (by rw [List.take_append_drop])), mrg_lt a b ha3 hb3 (fun x hx y hy => p3 x (ha2.mem_iff.1 hx) y (hb2.mem_iff.1 hy))⟩
      simp only [impl_TaxLine.f]
      refine ev_neg h2 ?_
      simp only [Option.bind_some, List.nil_append, hh, Int.toNat_natCast, List.length_nil, Nat.zero_add]
      exact ev_pos (by omega) (ev_pos (by omega) (ev_pos (by omega) (ev_pos (by omega) (ev_bind ha1 (ev_bind hb1 hm)))))
theorem one_sort : ∀ (xs ys : List Tl), xs.Perm ys → xs.Pairwise ltC → ys.Pairwise ltC → xs = ys
  | [], ys, h, _, _ => (List.Perm.nil_eq h)
  | x :: xs, [], h, _, _ => absurd h.length_eq (by simp)
  | x :: xs, y :: ys, h, hx, hy => by
    obtain ⟨hx1, hx2⟩ := List.pairwise_cons.1 hx
    obtain ⟨hy1, hy2⟩ := List.pairwise_cons.1 hy
    have e : x = y := by
      rcases List.mem_cons.1 (h.mem_iff.1 (List.mem_cons_self ..)) with e | m1
      · exact e
      · rcases List.mem_cons.1 (h.symm.mem_iff.1 (List.mem_cons_self ..)) with e | m2
        · exact e.symm
        · exact (lt_no (hy1 x m1) (hx1 y m2)).elim
    subst e
    rw [one_sort xs ys (List.Perm.cons_inv h) hx2 hy2]
def apart : List Tl → Bool
  | [] => true
  | a :: l => l.all (fun b => decide (a.f0 ≠ b.f0)) && apart l
theorem apart_iff : ∀ l : List Tl, apart l = true ↔ l.Pairwise (fun a b => a.f0 ≠ b.f0)
  | [] => by simp [apart]
  | a :: l => by
    rw [apart, Bool.and_eq_true, apart_iff l, List.pairwise_cons, List.all_eq_true]
    simp
def mcok {κ : Type} [DecidableEq κ] (xs : List (κ × Tl)) : Bool := decide ((mels z59 xs).length ≤ 100000) && apart (mels z59 xs)
theorem mcok_len {κ ρ : Type} [DecidableEq κ] {xs : List (κ × Tl)} {f : Option ρ} {r : ρ} (H : (if mcok xs = true then f else none) = some r) : (mels z59 xs).length ≤ 100000 := by
  by_cases hc : mcok xs = true
  · rw [mcok, Bool.and_eq_true, decide_eq_true_eq] at hc
    exact hc.1
  · rw [if_neg hc] at H
    cases H
theorem mono_le (l : List Tl) (r : List Tl) {k : Nat} (h : impl_TaxLine.f k l () = some r) : ∀ d, impl_TaxLine.f (k + d) l () = some r
  | 0 => h
  | d + 1 => impl_TaxLine.mono l () (k + d) r (mono_le l r h d)
theorem mcol_sort {κ : Type} [DecidableEq κ] {xs : List (κ × Tl)} {ys : List Tl} {k : Nat} {r : List Tl} (hp : ys.Perm (mels z59 xs)) (H : (if mcok xs = true then (impl_TaxLine.f k (mels z59 xs) ()) else none) = some r) : ∃ k', impl_TaxLine.f k' ys () = some r := by
  by_cases hc : mcok xs = true
  · rw [if_pos hc] at H
    have hc2 := hc
    rw [mcok, Bool.and_eq_true, decide_eq_true_eq, apart_iff] at hc2
    obtain ⟨h1, h2⟩ := hc2
    obtain ⟨a, ⟨K, ha1⟩, ha2, ha3⟩ := sort_ok _ _ rfl h1 h2
    have hd : ys.Pairwise (fun a b : Tl => a.f0 ≠ b.f0) := (hp.pairwise_iff (fun h e => h e.symm)).2 h2
    obtain ⟨b, ⟨K', hb1⟩, hb2, hb3⟩ := sort_ok _ ys rfl (by rw [hp.length_eq]; exact h1) hd
    have e : a = b := one_sort a b (ha2.trans (hp.symm.trans hb2.symm)) ha3 hb3
    have e2 := mono_le _ _ H K
    have e3 : impl_TaxLine.f (k + K) (mels z59 xs) () = some a := ha1 (k + K) (by omega)
    rw [e3] at e2
    injection e2 with e2
    have e4 : impl_TaxLine.f K' ys () = some b := hb1 K' (Nat.le_refl _)
    exact ⟨K', by rw [e4, ← e, e2]⟩
  · rw [if_neg hc] at H
    cases H
end Go.Proofs.Ytobbemdkipknnaa.PFnExactTaxReturn.SortT
