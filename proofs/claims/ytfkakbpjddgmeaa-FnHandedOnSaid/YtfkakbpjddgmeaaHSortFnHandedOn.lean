import Derived.Test.YtfkakbpjddgmeaaHDrawFnHandedOn
set_option linter.unusedVariables false
set_option linter.unusedSimpArgs false
namespace Go.Proofs.Ytfkakbpjddgmeaa.PFnHandedOn
open Go Go.RowKit Go.Proofs.YtfkakbpjddgmeaaW.PrintWords Go.Proofs.YtfkakbpjddgmeaaW.PrintLast Go.Proofs.Ytfkakbpjddgmeaa.MapWords Go.Proofs.Ytfkakbpjddgmeaa.IterWords Go.Proofs.Ytfkakbpjddgmeaa.EvWords
open Classical
abbrev Cut := S103
def lexP (a b : Cut) : Prop := b.f1 < a.f1 ∨ (b.f1 = a.f1 ∧ a.f0 < b.f0)
def mrg : List Cut → List Cut → List Cut
  | [], ys => ys
  | x :: xs, [] => x :: xs
  | x :: xs, y :: ys => if y.f1 > x.f1 then y :: mrg (x :: xs) ys else x :: mrg xs (y :: ys)
theorem mrg_perm : ∀ (xs ys : List Cut), (mrg xs ys).Perm (xs ++ ys)
  | [], ys => by simp [mrg]
  | x :: xs, [] => by simp [mrg]
  | x :: xs, y :: ys => by
    unfold mrg
    split
    · exact ((mrg_perm (x :: xs) ys).cons y).trans List.perm_middle.symm
    · exact (mrg_perm xs (y :: ys)).cons x
theorem mrg_lex : ∀ (xs ys : List Cut), xs.Pairwise lexP → ys.Pairwise lexP → (∀ x ∈ xs, ∀ y ∈ ys, x.f0 < y.f0) → (mrg xs ys).Pairwise lexP
  | [], ys => fun _ h _ => by simpa [mrg] using h
  | x :: xs, [] => fun h _ _ => by simpa [mrg] using h
  | x :: xs, y :: ys => fun hx hy hc => by
    obtain ⟨hx1, hx2⟩ := List.pairwise_cons.1 hx
    obtain ⟨hy1, hy2⟩ := List.pairwise_cons.1 hy
    unfold mrg
    split
    · rename_i h
      refine List.pairwise_cons.2 ⟨fun z hz => ?_, mrg_lex (x :: xs) ys hx hy2 (fun a ha b hb => hc a ha b (List.mem_cons_of_mem _ hb))⟩
      rcases List.mem_append.1 ((mrg_perm (x :: xs) ys).mem_iff.1 hz) with h2 | h2
      · rcases List.mem_cons.1 h2 with h3 | h3
        · subst h3; exact .inl h
        · have := hx1 z h3
          unfold lexP at this ⊢
          omega
      · exact hy1 z h2
    · rename_i h
      refine List.pairwise_cons.2 ⟨fun z hz => ?_, mrg_lex xs (y :: ys) hx2 hy (fun a ha b hb => hc a (List.mem_cons_of_mem _ ha) b hb)⟩
      rcases List.mem_append.1 ((mrg_perm xs (y :: ys)).mem_iff.1 hz) with h2 | h2
      · exact hx1 z h2
      · have h4 := hc x (List.mem_cons_self ..) z h2
        rcases List.mem_cons.1 h2 with h3 | h3
        · subst h3
          unfold lexP
          omega
        · have := hy1 z h3
          unfold lexP at this ⊢
          omega
theorem set_mid {α : Type} (m : List α) (c : α) (t : List α) (x : α) : (m ++ c :: t).set m.length x = (m ++ [x]) ++ t := by
  induction m with
  | nil => rfl
  | cons a m ih => simp only [List.cons_append, List.length_cons, List.set_cons_succ, ih]
theorem rd_mid (p : List Cut) (x : Cut) (s : List Cut) (i : Int) (hi : i = (p.length : Int)) : rd_T103 (p ++ x :: s) i = x := by
  subst hi
  show (p ++ x :: s).getD ((p.length : Nat) : Int).toNat _ = x
  rw [Int.toNat_natCast, List.getD_eq_getElem?_getD, List.getElem?_append_right (Nat.le_refl _), Nat.sub_self]
  rfl
theorem cut_eta (x : Cut) : (⟨x.f0, x.f1⟩ : Cut) = x := by cases x; rfl
theorem len_mid {α : Type} (p : List α) (x : α) (s : List α) : (p ++ x :: s).length = p.length + s.length + 1 := by simp; omega
theorem mrg_loop (M : Nat) (hM : M ≤ 100000) : ∀ (d : Nat) (p1 s1 p2 s2 m t : List Cut), s1.length + s2.length = d → t.length = d → m.length = p1.length + p2.length → m.length + d = M →
    Ev (fun k => impl_cutOff.l0 k (m ++ t) (p1 ++ s1) (p2 ++ s2) (p1.length : Int) (p2.length : Int) (M : Int) (m.length : Int)) (m ++ mrg s1 s2) := by
  intro d
  induction d with
  | zero =>
    intro p1 s1 p2 s2 m t h1 h2 h3 h4
    have e1 : s1 = [] := List.length_eq_zero_iff.1 (by omega)
    have e2 : s2 = [] := List.length_eq_zero_iff.1 (by omega)
    have e3 : t = [] := List.length_eq_zero_iff.1 h2
    subst e1 e2 e3
    refine Ev.step (fun _ => rfl) ?_
    simp only [impl_cutOff.l0]
    exact ev_neg (by omega) (ev_eq (ev_some _) (by simp [mrg]))
  | succ d ih =>
    intro p1 s1 p2 s2 m t h1 h2 h3 h4
    obtain ⟨c, t, rfl⟩ : ∃ c t', t = c :: t' := by
      cases t with
      | nil => simp at h2
      | cons c t => exact ⟨c, t, rfl⟩
    simp only [List.length_cons] at h2
    have hw : ∀ q : Nat, q ≤ 100000 → wrap64 ((q : Int) + 1) = ((q + 1 : Nat) : Int) := fun q hq => by rw [wrap_id (by omega) (by omega)]; omega
    have hm := hw m.length (by omega)
    have hx0 : (m ++ c :: t).length = m.length + t.length + 1 := len_mid m c t
    refine Ev.step (fun _ => rfl) ?_
    simp only [impl_cutOff.l0]
    refine ev_pos (by omega) ?_
    cases s2 with
    | nil =>
      cases s1 with
      | nil => simp at h1
      | cons x s1 =>
        have l1 := len_mid p1 x s1
        simp only [List.length_cons, List.length_nil] at h1
        refine ev_pos (by simp) (ev_pos (by omega) (ev_pos (by omega) (ev_pos (by omega) (ev_pos (by omega) ?_))))
        rw [rd_mid p1 x s1 _ rfl, cut_eta, Int.toNat_natCast, set_mid, hm, hw p1.length (by omega)]
        have := ih (p1 ++ [x]) s1 p2 [] (m ++ [x]) t (by simp; omega) (by omega) (by simp; omega) (by simp; omega)
        simp only [List.append_assoc, List.singleton_append, List.length_append, List.length_cons, List.length_nil, List.append_nil] at this ⊢
        refine ev_eq this ?_
        cases s1 <;> simp [mrg]
    | cons y s2 =>
      have l2 := len_mid p2 y s2
      refine ev_neg (by omega) ?_
      have takeY : Ev (fun k => impl_cutOff.l0 k (m ++ y :: t) (p1 ++ s1) (p2 ++ y :: s2) (p1.length : Int) ((p2.length + 1 : Nat) : Int) (M : Int) ((m.length + 1 : Nat) : Int)) (m ++ y :: mrg s1 s2) := by
        have := ih p1 s1 (p2 ++ [y]) s2 (m ++ [y]) t (by simp only [List.length_cons] at h1; omega) (by omega) (by simp; omega) (by simp; omega)
        simpa only [List.append_assoc, List.singleton_append, List.length_append, List.length_cons, List.length_nil, List.nil_append, Nat.zero_add] using this
      cases s1 with
      | nil =>
        simp only [List.length_cons, List.length_nil] at h1
        refine ev_neg (by simp) (ev_pos (by omega) (ev_pos (by omega) (ev_pos (by omega) (ev_pos (by omega) ?_))))
        rw [rd_mid p2 y s2 _ rfl, cut_eta, Int.toNat_natCast, set_mid, hm, hw p2.length (by omega)]
        simp only [List.append_assoc, List.singleton_append]
        refine ev_eq takeY ?_
        cases s2 <;> simp [mrg]
      | cons x s1 =>
        have l1 := len_mid p1 x s1
        simp only [List.length_cons] at h1
        have hless : impl_Shares_1.f y.f0 y.f1 x.f0 x.f1 = some (decide (y.f1 > x.f1)) := rfl
        refine ev_pos (by omega) (ev_pos (by omega) (ev_pos (by omega) (ev_pos (by omega) ?_)))
        rw [rd_mid p2 y s2 _ rfl, rd_mid p1 x s1 _ rfl, cut_eta, cut_eta]
        refine ev_bind0 hless ?_
        by_cases hc : y.f1 > x.f1
        · refine ev_pos (decide_eq_true hc) (ev_pos (by omega) (ev_pos (by omega) ?_))
          rw [Int.toNat_natCast, set_mid, hm, hw p2.length (by omega)]
          simp only [List.append_assoc, List.singleton_append]
          refine ev_eq takeY ?_
          simp [mrg, hc]
        · refine ev_neg (by simpa using hc) (ev_pos (by omega) (ev_pos (by omega) ?_))
          rw [Int.toNat_natCast, set_mid, hm, hw p1.length (by omega)]
          have := ih (p1 ++ [x]) s1 p2 (y :: s2) (m ++ [x]) t (by simp only [List.length_cons]; omega) (by omega) (by simp; omega) (by simp; omega)
          simp only [List.append_assoc, List.singleton_append, List.length_append, List.length_cons, List.length_nil, List.nil_append, Nat.zero_add] at this ⊢
          refine ev_eq this ?_
          simp [mrg, hc]
theorem sort_ok : ∀ (n : Nat) (l : List Cut), l.length = n → n ≤ 1000 → l.Pairwise (fun a b => a.f0 < b.f0) → EvP (fun k => impl_cutOff.f k l ()) (fun r => r.Perm l ∧ r.Pairwise lexP) := by
  intro n
  induction n using Nat.strongRecOn with
  | _ n ih =>
    intro l hl hn hp
    refine evp_step (fun _ => rfl) ?_
    simp only [impl_cutOff.f]
    by_cases h2 : (l.length : Int) < 2
    · refine evp_pos h2 (evp_some ⟨List.Perm.refl _, ?_⟩)
      match l, h2 with
      | [], _ => exact List.Pairwise.nil
      | [a], _ => exact List.pairwise_singleton _ _
      | a :: b :: r, h => simp at h; omega
    · refine evp_neg h2 ?_
      obtain ⟨h, hh⟩ : ∃ h : Nat, wrap64 ((l.length : Int) / 2) = (h : Int) := ⟨l.length / 2, by rw [wrap_id (by omega) (by omega)]; omega⟩
      have hh2 : h = l.length / 2 := by rw [wrap_id (by omega) (by omega)] at hh; omega
      simp only [Option.bind_some, List.nil_append, hh, Int.toNat_natCast, List.length_nil, Nat.zero_add]
      have lt : (l.take h).length = h := by rw [List.length_take]; omega
      have ld : (l.drop h).length = l.length - h := List.length_drop ..
      have hpa : (l.take h ++ l.drop h).Pairwise (fun a b : Cut => a.f0 < b.f0) := by rw [List.take_append_drop]; exact hp
      obtain ⟨p1, p2, p3⟩ := List.pairwise_append.1 hpa
      refine evp_pos (by omega) (evp_pos (by omega) (evp_pos (by omega) (evp_pos (by omega) (evp_bind (ih h (by omega) (l.take h) lt (by omega) p1) (fun a ha => evp_bind (ih (l.length - h) (by omega) (l.drop h) ld (by omega) p2) (fun b hb => ?_))))))
      have la : a.length = h := by rw [ha.1.length_eq]; exact lt
      have lb : b.length = l.length - h := by rw [hb.1.length_eq]; exact ld
      have hm := mrg_loop l.length (by omega) l.length [] a [] b [] l (by omega) rfl rfl (by simp)
      simp only [List.nil_append, List.length_nil] at hm
      refine ⟨_, hm, (mrg_perm a b).trans (((ha.1.append hb.1)).trans (by rw [List.take_append_drop])), mrg_lex a b ha.2 hb.2 (fun x hx y hy => p3 x (ha.1.mem_iff.1 hx) y (hb.1.mem_iff.1 hy))⟩
end Go.Proofs.Ytfkakbpjddgmeaa.PFnHandedOn
