import Derived.Test.YtjnmfadnkbflfaaPLinesFnExactParseFlow
import Derived.Lib.DecodeN
import Derived.Laws.RangeAny
import Derived.Test.YtjnmfadnkbflfaaPReadFnExactParseFlow
set_option linter.unusedVariables false
set_option linter.unusedSimpArgs false
namespace Go.Proofs.Ytjnmfadnkbflfaa.PFnExactParseFlow
open Go Go.RowKit Go.Proofs.YtjnmfadnkbflfaaW.PrintWords Go.Proofs.YtjnmfadnkbflfaaW.PrintLast Go.Proofs.Ytjnmfadnkbflfaa.MapWords Go.Proofs.Ytjnmfadnkbflfaa.IterWords Go.Proofs.Ytjnmfadnkbflfaa.EvWords
open Classical
theorem dec_cont (s : ByteArray) (p q : Nat) (h1 : p < q) (h2 : q < p + (Utf8.decode s p).2) : q < s.size ∧ 128 ≤ (s.get! q).toNat := by
  rw [Lib.decode_at] at h2
  generalize hb0 : (s.get! p).toNat = b0 at h2
  generalize hb1 : (s.get! (p + 1)).toNat = b1 at h2
  generalize hb2 : (s.get! (p + 2)).toNat = b2 at h2
  generalize hb3 : (s.get! (p + 3)).toNat = b3 at h2
  unfold Lib.decodeN at h2
  have e : q = p + 1 ∨ q = p + 2 ∨ q = p + 3 ∨ p + 3 < q := by omega
  have key : (1 < s.size - p ∧ q = p + 1 ∧ b1 / 64 = 2) ∨ (2 < s.size - p ∧ q = p + 2 ∧ b2 / 64 = 2) ∨ (3 < s.size - p ∧ q = p + 3 ∧ b3 / 64 = 2) := by
    by_cases c0 : b0 < 128
    · rw [if_pos c0] at h2; simp only at h2; omega
    · rw [if_neg c0] at h2
      by_cases c1 : b0 / 32 = 6 ∧ (1 < s.size - p ∧ b1 / 64 = 2)
      · rw [if_pos c1] at h2
        split at h2
        · simp only at h2; omega
        · simp only at h2; omega
      · rw [if_neg c1] at h2
        by_cases c2 : b0 / 16 = 14 ∧ (1 < s.size - p ∧ b1 / 64 = 2) ∧ (2 < s.size - p ∧ b2 / 64 = 2)
        · rw [if_pos c2] at h2
          split at h2
          · simp only at h2; omega
          · simp only at h2; omega
        · rw [if_neg c2] at h2
          by_cases c3 : b0 / 8 = 30 ∧ (1 < s.size - p ∧ b1 / 64 = 2) ∧ (2 < s.size - p ∧ b2 / 64 = 2) ∧ (3 < s.size - p ∧ b3 / 64 = 2)
          · rw [if_pos c3] at h2
            split at h2
            · simp only at h2; omega
            · simp only at h2; omega
          · rw [if_neg c3] at h2; simp only at h2; omega
  rcases key with ⟨a, rfl, c⟩ | ⟨a, rfl, c⟩ | ⟨a, rfl, c⟩
  · rw [hb1]; omega
  · rw [hb2]; omega
  · rw [hb3]; omega
theorem get_B (l : List UInt8) (q : Nat) (h : q < l.length) : (B l).get! q = l[q] := get_at (B l) q h
def sp (c : UInt8) : List UInt8 → List UInt8 → List (List UInt8)
  | cur, [] => [cur]
  | cur, x :: r => if x = c then cur :: sp c [] r else sp c (cur ++ [x]) r
theorem sp_run (c : UInt8) : ∀ (u cur r : List UInt8), (∀ x ∈ u, x ≠ c) → sp c cur (u ++ r) = sp c (cur ++ u) r := by
  intro u
  induction u with
  | nil => intro cur r _; simp
  | cons x u ih =>
    intro cur r h
    rw [List.cons_append, sp, if_neg (h x (by simp)), ih _ _ (fun y hy => h y (by simp [hy]))]
    simp
theorem sp_hit (c : UInt8) (cur r : List UInt8) : sp c cur (c :: r) = cur :: sp c [] r := by rw [sp, if_pos rfl]
theorem sp_len (c : UInt8) : ∀ (r cur : List UInt8), 1 ≤ (sp c cur r).length ∧ (sp c cur r).length ≤ r.length + 1 := by
  intro r
  induction r with
  | nil => intro cur; simp [sp]
  | cons x r ih =>
    intro cur
    rw [sp]
    by_cases h : x = c
    · rw [if_pos h]; have := ih []; simp only [List.length_cons]; omega
    · rw [if_neg h]; have := ih (cur ++ [x]); simp only [List.length_cons]; omega
theorem sp_size (c : UInt8) : ∀ (r cur : List UInt8), ∀ y ∈ sp c cur r, y.length ≤ cur.length + r.length := by
  intro r
  induction r with
  | nil => intro cur y hy; rw [sp] at hy; rw [List.mem_singleton.1 hy]; simp
  | cons x r ih =>
    intro cur y hy
    rw [sp] at hy
    by_cases h : x = c
    · rw [if_pos h] at hy
      rcases List.mem_cons.1 hy with rfl | hy
      · omega
      · have := ih [] y hy; simp only [List.length_cons, List.length_nil] at *; omega
    · rw [if_neg h] at hy
      have := ih _ y hy; simp only [List.length_append, List.length_cons, List.length_nil] at *; omega
def jo (c : UInt8) : List (List UInt8) → List UInt8
  | [] => []
  | x :: ps => x ++ jt c ps
where jt (c : UInt8) : List (List UInt8) → List UInt8
  | [] => []
  | x :: ps => c :: (x ++ jt c ps)
theorem sp_jo (c : UInt8) : ∀ (r cur : List UInt8), jo c (sp c cur r) = cur ++ r := by
  intro r
  induction r with
  | nil => intro cur; rw [sp]; simp [jo, jo.jt]
  | cons x r ih =>
    intro cur
    rw [sp]
    by_cases h : x = c
    · rw [if_pos h]
      have := ih []
      cases hs : sp c [] r with
      | nil => have := (sp_len c r []).1; rw [hs] at this; simp at this
      | cons y ys =>
        rw [hs] at this
        simp only [jo, jo.jt, List.nil_append] at this ⊢
        rw [this, h]
    · rw [if_neg h, ih]; simp
theorem sp_last (c d : UInt8) (h : d ≠ c) : ∀ (r cur : List UInt8), ∃ ps x, sp c cur r = ps ++ [x] ∧ sp c cur (r ++ [d]) = ps ++ [x ++ [d]] := by
  intro r
  induction r with
  | nil => intro cur; exact ⟨[], cur, rfl, by rw [List.nil_append, sp, if_neg h, sp]; rfl⟩
  | cons x r ih =>
    intro cur
    by_cases hx : x = c
    · obtain ⟨ps, y, h1, h2⟩ := ih []
      refine ⟨cur :: ps, y, ?_, ?_⟩
      · rw [sp, if_pos hx, h1]; rfl
      · rw [List.cons_append, sp, if_pos hx, h2]; rfl
    · obtain ⟨ps, y, h1, h2⟩ := ih (cur ++ [x])
      refine ⟨ps, y, ?_, ?_⟩
      · rw [sp, if_neg hx, h1]
      · rw [List.cons_append, sp, if_neg hx, h2]
theorem wid_split (l q r : List UInt8) (c : UInt8) (he : l = q ++ c :: r) : ∃ u t, r = u ++ t ∧ itw (B l) ((q.length : Nat) : Int) = ((q.length + 1 + u.length : Nat) : Int) ∧ (∀ x ∈ u, 128 ≤ x.toNat) ∧ (c.toNat < 128 → u = []) := by
  have hlt : q.length < (B l).size := by rw [B_size, he]; simp
  have hw := wid (B l) q.length hlt
  have hl : l.length = q.length + 1 + r.length := by rw [he]; simp only [List.length_append, List.length_cons]; omega
  have hr : (Utf8.decode (B l) q.length).2 - 1 ≤ r.length := by
    by_cases h0 : (Utf8.decode (B l) q.length).2 ≤ 1
    · omega
    · have := (dec_cont (B l) q.length (q.length + ((Utf8.decode (B l) q.length).2 - 1)) (by omega) (by omega)).1
      rw [B_size] at this
      omega
  refine ⟨r.take ((Utf8.decode (B l) q.length).2 - 1), r.drop ((Utf8.decode (B l) q.length).2 - 1), (List.take_append_drop _ _).symm, ?_, ?_, ?_⟩
  · rw [itw_n, itn_n, List.length_take, Nat.min_eq_left hr]
    omega
  · intro x hx
    obtain ⟨i, hi, rfl⟩ := List.getElem_of_mem hx
    rw [List.length_take, Nat.min_eq_left hr] at hi
    have h1 := (dec_cont (B l) q.length (q.length + 1 + i) (by omega) (by omega)).2
    rw [get_B l _ (by omega)] at h1
    have e : l[q.length + 1 + i]'(by omega) = (r.take ((Utf8.decode (B l) q.length).2 - 1))[i]'(by rw [List.length_take, Nat.min_eq_left hr]; exact hi) := by
      subst he
      rw [List.getElem_take, List.getElem_append_right (by omega)]
      have : q.length + 1 + i - q.length = i + 1 := by omega
      simp only [this, List.getElem_cons_succ]
    rw [e] at h1
    exact h1
  · intro hc
    have h5 := itw1 l q r c he hc
    rw [itw_n, itn_n] at h5
    have : (Utf8.decode (B l) q.length).2 = 1 := by omega
    rw [this]; rfl
theorem cut1_loop (l : List UInt8) (hl : l.length ≤ 4000) (c1 : UInt8) (hc1 : c1.toNat < 128) : ∀ (n : Nat) (r pre cur : List UInt8) (acc : List (List UInt8)), r.length ≤ n → l = pre ++ cur ++ r → acc.length ≤ pre.length →
    Ev (fun k => impl_cutAt.l0 k (B l) (B [c1]) (acc.map B) ((pre.length : Nat) : Int) ((pre.length : Nat) : Int) (((pre ++ cur).length : Nat) : Int) (B l)) ((acc ++ sp c1 cur r).map B) := by
  have fin : ∀ (pre cur : List UInt8) (acc : List (List UInt8)), l = pre ++ cur ++ [] → acc.length ≤ pre.length →
      Ev (fun k => impl_cutAt.l0 k (B l) (B [c1]) (acc.map B) ((pre.length : Nat) : Int) ((pre.length : Nat) : Int) (((pre ++ cur).length : Nat) : Int) (B l)) ((acc ++ sp c1 cur []).map B) := by
    intro pre cur acc he ha
    refine ev_eq (cut_fin l hl _ pre cur (acc.map B) (by rw [he]; simp) (by rw [List.length_map]; exact ha)) ?_
    rw [sp]; simp
  intro n
  induction n with
  | zero =>
    intro r pre cur acc hr he ha
    have : r = [] := List.eq_nil_of_length_eq_zero (by omega)
    subst this
    exact fin pre cur acc he ha
  | succ n ih =>
    intro r pre cur acc hr he ha
    cases r with
    | nil => exact fin pre cur acc he ha
    | cons c r =>
      have hpl : (pre ++ cur).length = pre.length + cur.length := List.length_append
      have hz : l.length = pre.length + cur.length + (r.length + 1) := by rw [he]; simp only [List.length_append, List.length_cons]
      obtain ⟨u, t, h1, h2, h3, h4⟩ := wid_split l (pre ++ cur) r c he
      have hut : r.length = u.length + t.length := by rw [h1, List.length_append]
      simp only [List.length_cons] at hr
      have hs : (B l).size ≤ 4000 := hl
      have hm : (B [c1]).size = 1 := rfl
      have hex : ((B l).extract (itn (((pre ++ cur).length : Nat) : Int)) (itn (((pre ++ cur).length : Nat) : Int) + (B [c1]).size)).toList = [c] := by
        rw [B_ext, B_list, itn_n, he, List.drop_left, hm, Nat.add_sub_cancel_left]
        rfl
      by_cases hc : c = c1
      · subst hc
        have hu := h4 hc1
        subst hu
        rw [List.nil_append] at h1
        subst h1
        rw [sp_hit]
        have ih' := ih r (pre ++ cur ++ [c]) [] (acc ++ [cur]) (by omega) (by rw [he]; simp) (by simp only [List.length_append, List.length_cons, List.length_nil]; omega)
        have e2 : (pre ++ cur ++ [c] ++ []).length = (pre ++ cur).length + 1 := by simp only [List.length_append, List.length_cons, List.length_nil]; try omega
        have e3 : (pre ++ cur ++ [c]).length = (pre ++ cur).length + 1 := by simp only [List.length_append, List.length_cons, List.length_nil]; try omega
        have e4 : (acc ++ [cur]).map B = acc.map B ++ [B cur] := by simp
        have e1 : (B l).extract pre.length (itn (((pre ++ cur).length : Nat) : Int)) = B cur := by
          rw [itn_n, B_ext, he, hpl]
          simp
        simp only [List.length_nil, Nat.add_zero] at h2
        rw [e2, e3, e4, ← e1] at ih'
        refine c_hit hs (by rw [itn_n]; omega) (by rw [itn_n, hm, B_size]; omega) (by rw [hm]; exact Nat.le_refl _) (by rw [List.length_map]; omega) (by rw [hex, B_list]) ?_
        rw [h2, itn_n, hm]
        refine ev_eq (by rw [itn_n] at ih'; exact ih') ?_
        simp
      · have hu : ∀ x ∈ c :: u, x ≠ c1 := by
          intro x hx
          rcases List.mem_cons.1 hx with rfl | hx
          · exact hc
          · intro e
            have := h3 x hx
            rw [e] at this
            omega
        have ih' := ih t pre (cur ++ (c :: u)) acc (by omega) (by rw [he, h1]; simp) ha
        have e5 : sp c1 cur (c :: r) = sp c1 (cur ++ (c :: u)) t := by
          rw [h1]
          exact sp_run c1 (c :: u) cur t hu
        have e6 : (pre ++ (cur ++ c :: u)).length = (pre ++ cur).length + 1 + u.length := by simp only [List.length_append, List.length_cons]; omega
        rw [e6, ← h2] at ih'
        rw [e5]
        refine c_miss hs (by rw [itn_n]; omega) (by rw [itn_n, hm, B_size]; omega) (by rw [hm]; exact Nat.le_refl _) ?_ ih'
        rw [hex, B_list]
        intro h5
        injection h5 with h5 _
        exact hc h5
theorem cut1 (l : List UInt8) (hl : l.length ≤ 4000) (c1 : UInt8) (hc1 : c1.toNat < 128) : Ev (fun k => impl_cutAt.f k (B l) (B [c1])) ((sp c1 [] l).map B) :=
  cut1_loop l hl c1 hc1 l.length l [] [] [] (Nat.le_refl _) rfl (by simp)
end Go.Proofs.Ytjnmfadnkbflfaa.PFnExactParseFlow

set_option linter.unusedVariables false
set_option linter.unusedSimpArgs false
namespace Go.Proofs.Ytjnmfadnkbflfaa.PFnExactParseFlow
open Go Go.RowKit Go.Proofs.YtjnmfadnkbflfaaW.PrintWords Go.Proofs.YtjnmfadnkbflfaaW.PrintLast Go.Proofs.Ytjnmfadnkbflfaa.MapWords Go.Proofs.Ytjnmfadnkbflfaa.IterWords Go.Proofs.Ytjnmfadnkbflfaa.EvWords
open Classical
def lns : List UInt8 → List UInt8 → List (List UInt8)
  | cur, [] => if cur = [] then [] else [cur]
  | cur, c :: r => if c = 10 then (cur ++ [10]) :: lns [] r else lns (cur ++ [c]) r
theorem lns_bd : ∀ (r cur : List UInt8), (lns cur r).length ≤ cur.length + r.length ∧ ∀ x ∈ lns cur r, 1 ≤ x.length ∧ x.length ≤ cur.length + r.length := by
  intro r
  induction r with
  | nil =>
    intro cur
    unfold lns
    by_cases h : cur = []
    · rw [if_pos h]; simp
    · rw [if_neg h]
      have : 1 ≤ cur.length := by cases cur with | nil => exact absurd rfl h | cons a b => simp
      simp only [List.length_cons, List.length_nil, List.mem_singleton]
      exact ⟨by omega, fun x hx => by rw [hx]; omega⟩
  | cons c r ih =>
    intro cur
    unfold lns
    by_cases h : c = 10
    · rw [if_pos h]
      obtain ⟨h1, h2⟩ := ih []
      simp only [List.length_nil] at h1 h2
      refine ⟨by simp only [List.length_cons]; omega, fun x hx => ?_⟩
      rcases List.mem_cons.1 hx with rfl | hx
      · simp only [List.length_append, List.length_cons, List.length_nil]; omega
      · have := h2 x hx; simp only [List.length_cons]; omega
    · rw [if_neg h]
      obtain ⟨h1, h2⟩ := ih (cur ++ [c])
      simp only [List.length_append, List.length_cons, List.length_nil] at h1 h2 ⊢
      exact ⟨by omega, fun x hx => by have := h2 x hx; omega⟩
theorem slines_loop (l : List UInt8) (hl : l.length ≤ 4000) : ∀ (r pre cur : List UInt8) (acc : List (List UInt8)), l = pre ++ cur ++ r → acc.length ≤ pre.length →
    Ev (fun k => spec_l1Lines.l0 k (B l) (acc.map B) ((pre.length : Nat) : Int) (((pre ++ cur).length : Nat) : Int)) ((acc ++ lns cur r).map B) := by
  intro r
  induction r with
  | nil =>
    intro pre cur acc he ha
    have hz : l.length = (pre ++ cur).length := by rw [he]; simp only [List.length_append, List.length_cons, List.length_nil]; try omega
    have hpl : (pre ++ cur).length = pre.length + cur.length := List.length_append
    refine Ev.step (fun _ => rfl) ?_
    simp only [spec_l1Lines.l0]
    refine ev_neg (by rw [B_size]; omega) ?_
    unfold lns
    by_cases hc : cur = []
    · subst hc
      rw [if_pos rfl, List.append_nil]
      simp only [List.length_nil] at hpl
      exact ev_neg (by rw [B_size]; omega) (ev_some _)
    · rw [if_neg hc]
      have : 1 ≤ cur.length := by cases cur with | nil => exact absurd rfl hc | cons a b => simp
      refine ev_pos (by rw [B_size]; omega) (ev_pos (by omega) (ev_pos (by rw [B_size]; omega) (ev_pos (by rw [List.length_map]; omega) (ev_eq (ev_some _) ?_))))
      rw [B_ext, B_size, Int.toNat_natCast, he]
      simp
  | cons c r ih =>
    intro pre cur acc he ha
    have hpl : (pre ++ cur).length = pre.length + cur.length := List.length_append
    have hz : l.length = pre.length + cur.length + (r.length + 1) := by rw [he]; simp only [List.length_append, List.length_cons, List.length_nil]; try omega
    have hb : bt (B l) (((pre ++ cur).length : Nat) : Int) = (c.toNat : Int) := by rw [he]; exact bt_mid _ _ _
    have hw : wrap64 ((((pre ++ cur).length : Nat) : Int) + 1) = (((pre ++ cur).length + 1 : Nat) : Int) := by rw [wrap_id (by omega) (by omega)]; omega
    refine Ev.step (fun _ => rfl) ?_
    simp only [spec_l1Lines.l0]
    refine ev_pos (by rw [B_size]; omega) (ev_pos (by omega) ?_)
    rw [hb, hw]
    unfold lns
    by_cases hc : c = 10
    · rw [if_pos hc]
      refine ev_pos ((u8_eq c 10 (by omega)).2 hc) (ev_pos (by omega) (ev_pos (by omega) (ev_pos (by rw [B_size]; omega) (ev_pos (by rw [List.length_map]; omega) ?_))))
      have e1 : (B l).extract (((pre.length : Nat) : Int)).toNat (((pre ++ cur).length + 1 : Nat) : Int).toNat = B (cur ++ [10]) := by
        rw [B_ext, Int.toNat_natCast, Int.toNat_natCast, he, hpl, hc]
        rw [show pre ++ cur ++ 10 :: r = pre ++ ((cur ++ [10]) ++ r) by simp, List.drop_left, show pre.length + cur.length + 1 - pre.length = (cur ++ [10]).length by simp only [List.length_append, List.length_cons, List.length_nil]; omega, List.take_left]
      have h2 := ih (pre ++ cur ++ [c]) [] (acc ++ [cur ++ [10]]) (by rw [he]; simp) (by simp only [List.length_append, List.length_singleton]; omega)
      have e2 : (pre ++ cur ++ [c] ++ []).length = (pre ++ cur).length + 1 := by simp only [List.length_append, List.length_cons, List.length_nil]; try omega
      have e3 : (pre ++ cur ++ [c]).length = (pre ++ cur).length + 1 := by simp only [List.length_append, List.length_cons, List.length_nil]; try omega
      rw [e2, e3] at h2
      rw [e1]
      have e4 : acc.map B ++ [B (cur ++ [10])] = (acc ++ [cur ++ [10]]).map B := by simp
      rw [e4]
      refine ev_eq h2 ?_
      simp
    · rw [if_neg hc]
      refine ev_neg (fun h => hc ((u8_eq c 10 (by omega)).1 h)) ?_
      have h2 := ih pre (cur ++ [c]) acc (by rw [he]; simp) ha
      have e2 : (pre ++ (cur ++ [c])).length = (pre ++ cur).length + 1 := by simp only [List.length_append, List.length_cons, List.length_nil]; try omega
      rw [e2] at h2
      exact h2
theorem specLines (l : List UInt8) (hl : l.length ≤ 4000) : Ev (fun k => spec_l1Lines.f k (B l)) ((lns [] l).map B) := by
  have := slines_loop l hl l [] [] [] rfl (by simp)
  simpa [spec_l1Lines.f] using this
theorem split1_loop (l : List UInt8) (hl : l.length ≤ 4000) (c1 : UInt8) : ∀ (r pre cur : List UInt8) (acc : List (List UInt8)), l = pre ++ cur ++ r → acc.length ≤ pre.length →
    Ev (fun k => spec_l11Split.l0 k (B l) (B [c1]) (acc.map B) ((pre.length : Nat) : Int) (((pre ++ cur).length : Nat) : Int)) ((acc ++ sp c1 cur r).map B) := by
  intro r
  induction r with
  | nil =>
    intro pre cur acc he ha
    have hz : l.length = (pre ++ cur).length := by rw [he]; simp only [List.length_append, List.length_cons, List.length_nil]; try omega
    have hpl : (pre ++ cur).length = pre.length + cur.length := List.length_append
    have hm : ((B [c1]).size : Int) = 1 := rfl
    refine Ev.step (fun _ => rfl) ?_
    simp only [spec_l11Split.l0]
    rw [hm, wrap_id (by omega) (by omega)]
    refine ev_neg (by rw [B_size]; omega) (ev_pos (by omega) (ev_pos (by rw [B_size]; omega) (ev_pos (by rw [List.length_map]; omega) (ev_eq (ev_some _) ?_))))
    rw [B_ext, B_size, Int.toNat_natCast, he, sp]
    simp
  | cons c r ih =>
    intro pre cur acc he ha
    have hpl : (pre ++ cur).length = pre.length + cur.length := List.length_append
    have hz : l.length = pre.length + cur.length + (r.length + 1) := by rw [he]; simp only [List.length_append, List.length_cons, List.length_nil]; try omega
    have hw : wrap64 ((((pre ++ cur).length : Nat) : Int) + 1) = (((pre ++ cur).length + 1 : Nat) : Int) := by rw [wrap_id (by omega) (by omega)]; omega
    have hm : ((B [c1]).size : Int) = 1 := rfl
    have hex : (B l).extract (((pre ++ cur).length : Nat) : Int).toNat (((pre ++ cur).length + 1 : Nat) : Int).toNat = B [c] := by
      rw [B_ext, Int.toNat_natCast, Int.toNat_natCast, he, List.drop_left, Nat.add_sub_cancel_left]
      rfl
    refine Ev.step (fun _ => rfl) ?_
    simp only [spec_l11Split.l0]
    rw [hm, hw]
    refine ev_pos (by rw [B_size]; omega) (ev_pos (by omega) (ev_pos (by omega) (ev_pos (by omega) ?_)))
    rw [hex, B_list, B_list]
    by_cases hc : c = c1
    · subst hc
      rw [sp_hit]
      refine ev_pos rfl (ev_pos (by omega) (ev_pos (by omega) (ev_pos (by rw [B_size]; omega) (ev_pos (by rw [List.length_map]; omega) ?_))))
      have e1 : (B l).extract (((pre.length : Nat) : Int)).toNat (((pre ++ cur).length : Nat) : Int).toNat = B cur := by
        rw [B_ext, Int.toNat_natCast, Int.toNat_natCast, he, hpl]
        simp
      have h2 := ih (pre ++ cur ++ [c]) [] (acc ++ [cur]) (by rw [he]; simp) (by simp only [List.length_append, List.length_singleton]; omega)
      have e2 : (pre ++ cur ++ [c] ++ []).length = (pre ++ cur).length + 1 := by simp only [List.length_append, List.length_cons, List.length_nil]; try omega
      have e3 : (pre ++ cur ++ [c]).length = (pre ++ cur).length + 1 := by simp only [List.length_append, List.length_cons, List.length_nil]; try omega
      rw [e2, e3] at h2
      rw [e1]
      have e4 : acc.map B ++ [B cur] = (acc ++ [cur]).map B := by simp
      rw [e4]
      refine ev_eq h2 ?_
      simp
    · rw [sp, if_neg hc]
      refine ev_neg (fun h => hc (by injection h)) ?_
      have h2 := ih pre (cur ++ [c]) acc (by rw [he]; simp) ha
      have e2 : (pre ++ (cur ++ [c])).length = (pre ++ cur).length + 1 := by simp only [List.length_append, List.length_cons, List.length_nil]; try omega
      rw [e2] at h2
      exact h2
theorem split1 (l : List UInt8) (hl : l.length ≤ 4000) (c1 : UInt8) : Ev (fun k => spec_l11Split.f k (B l) (B [c1])) ((sp c1 [] l).map B) :=
  split1_loop l hl c1 l [] [] [] rfl (by simp)
noncomputable def mo (p n : Nat) : List UInt8 := if p = 0 then dec n else mon n
noncomputable def sm (p : Nat) (a : Int) : List UInt8 := if a < 0 then 45 :: mo p a.natAbs else mo p a.natAbs
theorem ten0 : Ev (fun k => spec_l1Ten.f k 0) 1 := by
  unfold spec_l1Ten.f
  refine Ev.step (fun _ => rfl) (ev_neg (by omega) (ev_some _))
theorem sMoney0 (n : Nat) (h : n ≤ 100000000000) : Ev (fun k => spec_ShowMoney.f k (n : Int) 0) (B (dec n)) := by
  have hA : amP (n : Int) := by unfold amP; omega
  refine Ev.step (f := fun k => (spec_l1Amount.f (n : Int)).bind fun t => (if t = true then ((spec_l1In.f 0 0 6).bind fun u => (spec_ShowMoney.j0 k (n : Int) 0 (!u))) else (spec_ShowMoney.j0 k (n : Int) 0 true))) (fun _ => rfl) ?_
  refine ev_bind0 (l1Amount_eq _) (ev_pos (by simp [hA]) (ev_bind0 (l1In_eq _ _ _) ?_))
  have hb : ∀ b : Bool, b = false → Ev (fun k => spec_ShowMoney.j0 k (n : Int) 0 b) (B (dec n)) := ?_
  · exact hb _ (by simp)
  intro b hb
  refine Ev.step (fun _ => rfl) (ev_neg (by simp [hb]) (ev_neg (by omega) (ev_bind ten0 (ev_neg (by omega) ?_))))
  have e1 : wrap64 (Int.tdiv (n : Int) 1) = (n : Int) := by
    rw [Int.tdiv_one, wrap_id (by omega) (by omega)]
  rw [e1]
  exact ev_bind (specDec _ (by omega)) (ev_neg (by omega) (ev_some _))
theorem mo_len {p n : Nat} (h : n ≤ 100000000000) : (mo p n).length ≤ 15 := by
  unfold mo
  by_cases hp : p = 0
  · rw [if_pos hp]
    have := dec_len (d := 11) (n := n) (by omega)
    omega
  · rw [if_neg hp]; exact (mon_len h).2
theorem sMoney (p : Nat) (hp : p = 0 ∨ p = 2) (n : Nat) (h : n ≤ 100000000000) : Ev (fun k => spec_ShowMoney.f k (n : Int) (p : Int)) (B (mo p n)) := by
  rcases hp with rfl | rfl
  · exact sMoney0 n h
  · exact specMoney n h
theorem sMoneyZ (p : Nat) (hp : p = 0 ∨ p = 2) (a : Int) (h : amP a) : Ev (fun k => spec_ShowMoney.f k a (p : Int)) (B (sm p a)) := by
  unfold sm
  have h' := h
  unfold amP at h'
  by_cases h0 : a < 0
  · rw [if_pos h0]
    refine Ev.step (f := fun k => (spec_l1Amount.f a).bind fun t => (if t = true then ((spec_l1In.f (p : Int) 0 6).bind fun u => (spec_ShowMoney.j0 k a (p : Int) (!u))) else (spec_ShowMoney.j0 k a (p : Int) true))) (fun _ => rfl) ?_
    refine ev_bind0 (l1Amount_eq _) (ev_pos (by simp [h]) (ev_bind0 (l1In_eq _ _ _) ?_))
    have hb : ∀ b : Bool, b = false → Ev (fun k => spec_ShowMoney.j0 k a (p : Int) b) (B (45 :: mo p a.natAbs)) := ?_
    · exact hb _ (by rcases hp with rfl | rfl <;> simp)
    intro b hb
    refine Ev.step (fun _ => rfl) ?_
    simp only [spec_ShowMoney.j0]
    refine ev_neg (by simp [hb]) (ev_pos h0 ?_)
    rw [wrap_id (by omega) (by omega), show -a = ((a.natAbs : Nat) : Int) by omega]
    have hm := mo_len (p := p) (n := a.natAbs) (by omega)
    refine ev_bind (sMoney p hp a.natAbs (by omega)) (ev_pos (by rw [B_size]; omega) (ev_eq (ev_some _) ?_))
    exact B_app [45] _
  · rw [if_neg h0]
    have := sMoney p hp a.natAbs (by omega)
    rw [show ((a.natAbs : Nat) : Int) = a by omega] at this
    exact this
def ng (l : List UInt8) : Bool := l.head? == some 45
noncomputable def fin (p : Nat) (l full : List UInt8) (v : Nat) : Int × Bool :=
  if v > 100000000000 then (0, false) else if sm p (if ng l = true then -(v : Int) else v) = full then ((if ng l = true then -(v : Int) else v), true) else (0, false)
theorem rm_j6 (p : Nat) (hp : p = 0 ∨ p = 2) (full : List UInt8) (v : Nat) (hv : v ≤ 100000000000) (b : Bool) :
    Ev (fun k => spec_ReadMoney.j6 k (p : Int) (v : Int) (B full) b) (if sm p (if b = true then -(v : Int) else v) = full then ((if b = true then -(v : Int) else v), true) else (0, false)) := by
  refine Ev.step (fun _ => rfl) ?_
  simp only [spec_ReadMoney.j6, str_iff]
  by_cases hb : b = true
  · rw [if_pos hb]
    refine ev_pos hb ?_
    rw [wrap_id (by omega) (by omega)]
    refine ev_bind (sMoneyZ p hp (-(v : Int)) (by unfold amP; omega)) ?_
    by_cases he : sm p (-(v : Int)) = full
    · rw [if_pos he]; exact ev_pos (by rw [he]) (ev_some _)
    · rw [if_neg he]; exact ev_neg (fun h => he (B_inj.1 h)) (ev_some _)
  · rw [if_neg hb]
    refine ev_neg hb ?_
    refine ev_bind (sMoneyZ p hp (v : Int) (by unfold amP; omega)) ?_
    by_cases he : sm p (v : Int) = full
    · rw [if_pos he]; exact ev_pos (by rw [he]) (ev_some _)
    · rw [if_neg he]; exact ev_neg (fun h => he (B_inj.1 h)) (ev_some _)
theorem rm_end (p : Nat) (hp : p = 0 ∨ p = 2) (l full : List UInt8) (v : Nat) (hv : v ≤ 1000000000000000) :
    Ev (fun k => spec_ReadMoney.l1 k (B l) (p : Int) (v : Int) (p : Int) (B full)) (fin p l full v) := by
  refine Ev.step (fun _ => rfl) ?_
  simp only [spec_ReadMoney.l1]
  refine ev_neg (by omega) ?_
  unfold fin
  by_cases h : v > 100000000000
  · rw [if_pos h]; exact ev_pos (by omega) (ev_some _)
  · rw [if_neg h]
    refine ev_neg (by omega) ?_
    cases l with
    | nil => exact ev_neg (by rw [B_size]; simp) (rm_j6 p hp full v (by omega) false)
    | cons c r =>
      have hb : (bt (B (c :: r)) 0 == 45) = ng (c :: r) := by
        have := bt_mid [] r c
        rw [List.nil_append, List.length_nil] at this
        show (bt (B (c :: r)) ((0 : Nat) : Int) == 45) = _
        rw [this]
        have h5 := u8_eq c 45 (by omega)
        unfold ng
        by_cases hc : c = 45
        · subst hc; rfl
        · have h6 : ¬ ((c.toNat : Int) = ((45 : Nat) : Int)) := fun h => hc (h5.1 h)
          have e1 : ((c.toNat : Int) == 45) = false := by rw [beq_eq_false_iff_ne]; exact h6
          rw [e1]
          show false = (some c == some 45)
          simp [hc]
      refine ev_pos (by rw [B_size]; simp) (ev_pos (by rw [B_size]; simp) ?_)
      rw [hb]
      exact rm_j6 p hp full v (by omega) (ng (c :: r))
theorem rm_l1 (p : Nat) (hp : p = 0 ∨ p = 2) (l : List UInt8) : ∀ (d b : Nat) (v : Nat) (full : List UInt8), b + d = p → v * 10 ^ d ≤ 1000000000000000 → full.length + d ≤ 1000000 →
    Ev (fun k => spec_ReadMoney.l1 k (B l) (p : Int) (v : Int) (b : Int) (B full)) (fin p l (full ++ List.replicate d 48) (v * 10 ^ d)) := by
  intro d
  induction d with
  | zero =>
    intro b v full hb hv hf
    have : b = p := by omega
    subst this
    rw [Nat.pow_zero, Nat.mul_one] at hv ⊢
    simp only [List.replicate_zero, List.append_nil]
    exact rm_end b hp l full v hv
  | succ d ih =>
    intro b v full hb hv hf
    have hp10 : 0 < 10 ^ d := Nat.pow_pos (by omega)
    have hq : v * 10 * 10 ^ d = v * 10 ^ (d + 1) := by rw [Nat.pow_succ]; rw [Nat.mul_assoc, Nat.mul_comm 10]
    have hn2 : v * 10 ≤ 1000000000000000 := Nat.le_trans (Nat.le_mul_of_pos_right _ hp10) (by rw [hq]; exact hv)
    refine Ev.step (fun _ => rfl) ?_
    simp only [spec_ReadMoney.l1]
    have w1 : wrap64 ((v : Int) * 10) = ((v * 10 : Nat) : Int) := by rw [wrap_id (by omega) (by omega)]; omega
    have w2 : wrap64 ((b : Int) + 1) = ((b + 1 : Nat) : Int) := by rw [wrap_id (by omega) (by omega)]; omega
    have e1 : B full ++ (⟨#[48]⟩ : ByteArray) = B (full ++ [48]) := B_app full [48]
    rw [w1, w2, e1]
    refine ev_pos (by omega) (ev_pos (by rw [B_size]; omega) ?_)
    have := ih (b + 1) (v * 10) (full ++ [48]) (by omega) (by rw [hq]; exact hv) (by simp only [List.length_append, List.length_cons, List.length_nil]; omega)
    rw [hq] at this
    refine ev_eq this ?_
    rw [List.append_assoc]
    rfl
def rl : Bool → Nat → Int → List UInt8 → Option (Nat × Int)
  | _, v, b, [] => some (v, b)
  | f, v, b, c :: r =>
    if 48 ≤ c.toNat ∧ c.toNat ≤ 57 then (if v * 10 + (c.toNat - 48) > 100000000000 then none else rl false (v * 10 + (c.toNat - 48)) (if b ≥ 0 then b + 1 else b) r)
    else if c = 46 ∧ b < 0 then rl false v 0 r
    else if c = 45 ∧ f = true then rl false v b r
    else none
noncomputable def out (p : Nat) (l : List UInt8) (v : Nat) (b : Int) : Int × Bool :=
  if b < 0 then fin p l ((if p > 0 then l ++ [46] else l) ++ List.replicate p 48) (v * 10 ^ p)
  else if b = 0 then (0, false) else if b > p then (0, false) else fin p l (l ++ List.replicate (p - b.toNat) 48) (v * 10 ^ (p - b.toNat))
noncomputable def outO (p : Nat) (l : List UInt8) : Option (Nat × Int) → Int × Bool
  | none => (0, false)
  | some (v, b) => out p l v b
theorem pow2 {p : Nat} (hp : p = 0 ∨ p = 2) (d : Nat) (h : d ≤ p) (v : Nat) (hv : v ≤ 100000000000) : v * 10 ^ d ≤ 1000000000000000 := by
  have : (10 : Nat) ^ d ≤ 10 ^ 2 := Nat.pow_le_pow_right (by omega) (by omega)
  exact Nat.le_trans (Nat.mul_le_mul_left _ this) (by omega)
theorem rm_j4 (p : Nat) (hp : p = 0 ∨ p = 2) (l full : List UInt8) (v b : Nat) (hv : v ≤ 100000000000) (hf : full.length ≤ 1000) :
    Ev (fun k => spec_ReadMoney.j4 k (B l) (p : Int) (v : Int) (b : Int) (B full)) (if b > p then (0, false) else fin p l (full ++ List.replicate (p - b) 48) (v * 10 ^ (p - b))) := by
  refine Ev.step (fun _ => rfl) ?_
  simp only [spec_ReadMoney.j4]
  by_cases h : b > p
  · rw [if_pos h]; exact ev_pos (by omega) (ev_some _)
  · rw [if_neg h]
    exact ev_neg (by omega) (rm_l1 p hp l (p - b) b v full (by omega) (pow2 hp _ (by omega) v hv) (by omega))
theorem rm_l0 (p : Nat) (hp : p = 0 ∨ p = 2) (l : List UInt8) (hl : l.length ≤ 20) : ∀ (r pre : List UInt8) (v : Nat) (b : Int), l = pre ++ r → v ≤ 100000000000 → -1 ≤ b → b ≤ pre.length →
    Ev (fun k => spec_ReadMoney.l0 k (B l) (p : Int) (v : Int) b ((pre.length : Nat) : Int)) (outO p l (rl (decide (pre = [])) v b r)) := by
  intro r
  induction r with
  | nil =>
    intro pre v b he hv hb1 hb2
    rw [List.append_nil] at he
    subst he
    refine Ev.step (fun _ => rfl) ?_
    simp only [spec_ReadMoney.l0]
    refine ev_neg (by rw [B_size]; omega) ?_
    show Ev _ (out p l v b)
    unfold out
    by_cases h0 : b < 0
    · rw [if_pos h0]
      refine ev_pos h0 ?_
      by_cases h1 : p > 0
      · rw [if_pos h1]
        have e1 : B l ++ (⟨#[46]⟩ : ByteArray) = B (l ++ [46]) := B_app l [46]
        rw [e1]
        refine ev_pos (by omega) (ev_pos (by rw [B_size]; omega) (ev_eq (rm_j4 p hp l (l ++ [46]) v 0 hv (by simp only [List.length_append, List.length_cons, List.length_nil]; omega)) ?_))
        rw [if_neg (by omega), Nat.sub_zero]
      · rw [if_neg h1]
        refine ev_neg (by omega) (ev_eq (rm_j4 p hp l l v 0 hv (by omega)) ?_)
        rw [if_neg (by omega), Nat.sub_zero]
    · rw [if_neg h0]
      refine ev_neg h0 ?_
      by_cases h1 : b = 0
      · rw [if_pos h1]; exact ev_pos h1 (ev_some _)
      · rw [if_neg h1]
        refine ev_neg h1 ?_
        obtain ⟨n, rfl⟩ : ∃ n : Nat, b = n := ⟨b.toNat, by omega⟩
        refine ev_eq (rm_j4 p hp l l v n hv (by omega)) ?_
        rw [Int.toNat_natCast]
        by_cases h2 : n > p
        · rw [if_pos h2, if_pos (by omega)]
        · rw [if_neg h2, if_neg (by omega)]
  | cons c r ih =>
    intro pre v b he hv hb1 hb2
    have hz : pre.length < l.length := by rw [he]; simp
    have hbt : bt (B l) ((pre.length : Nat) : Int) = (c.toNat : Int) := by rw [he]; exact bt_mid _ _ _
    have hw : wrap64 (((pre.length : Nat) : Int) + 1) = ((pre.length + 1 : Nat) : Int) := by rw [wrap_id (by omega) (by omega)]; omega
    have hc : c.toNat < 256 := c.toNat_lt
    have e2 : (pre ++ [c]).length = pre.length + 1 := by simp
    have ih' := fun v b h1 h2 h3 => ih (pre ++ [c]) v b (by rw [he]; simp) h1 h2 (by rw [e2]; exact h3)
    rw [e2] at ih'
    have hne : decide (pre ++ [c] = []) = false := by simp
    rw [hne] at ih'
    refine Ev.step (fun _ => rfl) ?_
    simp only [spec_ReadMoney.l0]
    refine ev_pos (by rw [B_size]; omega) (ev_pos (by omega) ?_)
    rw [hbt]
    by_cases hd : 48 ≤ c.toNat ∧ c.toNat ≤ 57
    · have hj : ∀ t : Bool, t = true → Ev (fun k => spec_ReadMoney.j2 k (B l) (p : Int) (v : Int) b ((pre.length : Nat) : Int) t) (outO p l (rl (decide (pre = [])) v b (c :: r))) := by
        intro t ht
        refine Ev.step (fun _ => rfl) ?_
        simp only [spec_ReadMoney.j2]
        have w3 : wrap64 ((v : Int) * 10) = (v : Int) * 10 := wrap_id (by omega) (by omega)
        have w5 : wrap64 ((v : Int) * 10 + ((c.toNat : Int) - 48) % 256) = ((v * 10 + (c.toNat - 48) : Nat) : Int) := by rw [wrap_id (by omega) (by omega)]; omega
        rw [hbt, w3, w5, hw]
        refine ev_pos ht (ev_pos (by omega) (ev_pos (by rw [B_size]; omega) ?_))
        rw [rl, if_pos hd]
        by_cases hv2 : v * 10 + (c.toNat - 48) > 100000000000
        · rw [if_pos hv2]
          by_cases h0 : b ≥ 0
          · exact ev_pos h0 (ev_pos (by omega) (ev_some _))
          · exact ev_neg h0 (ev_pos (by omega) (ev_some _))
        · rw [if_neg hv2]
          by_cases h0 : b ≥ 0
          · rw [if_pos h0]
            have w6 : wrap64 (b + 1) = b + 1 := wrap_id (by omega) (by omega)
            rw [w6]
            exact ev_pos h0 (ev_neg (by omega) (ih' _ _ (by omega) (by omega) (by omega)))
          · rw [if_neg h0]
            exact ev_neg h0 (ev_neg (by omega) (ih' _ _ (by omega) (by omega) (by omega)))
      refine ev_pos (by omega) (hj _ ?_)
      rw [decide_eq_true_eq]; omega
    · have hj : ∀ t : Bool, t = false → Ev (fun k => spec_ReadMoney.j2 k (B l) (p : Int) (v : Int) b ((pre.length : Nat) : Int) t) (outO p l (rl (decide (pre = [])) v b (c :: r))) := by
        intro t ht
        refine Ev.step (fun _ => rfl) ?_
        simp only [spec_ReadMoney.j2]
        refine ev_neg (by simp [ht]) (ev_pos (by omega) (ev_pos (by rw [B_size]; omega) ?_))
        rw [hbt, rl, if_neg hd]
        have hj3 : ∀ u : Bool, u = decide (c = 46 ∧ b < 0) → Ev (fun k => spec_ReadMoney.j3 k (B l) (p : Int) (v : Int) b ((pre.length : Nat) : Int) u) (outO p l (if c = 46 ∧ b < 0 then rl false v 0 r else if c = 45 ∧ decide (pre = []) = true then rl false v b r else none)) := by
          intro u hu
          refine Ev.step (fun _ => rfl) ?_
          simp only [spec_ReadMoney.j3]
          rw [hbt, hw]
          by_cases h1 : c = 46 ∧ b < 0
          · rw [if_pos h1]
            exact ev_pos (by rw [hu, decide_eq_true_eq]; exact h1) (ih' v 0 hv (by omega) (by omega))
          · rw [if_neg h1]
            refine ev_neg (by rw [hu, decide_eq_true_eq]; exact h1) (ev_pos (by omega) (ev_pos (by rw [B_size]; omega) ?_))
            by_cases h2 : c = 45
            · refine ev_pos ((u8_eq c 45 (by omega)).2 h2) ?_
              by_cases h3 : pre = []
              · rw [if_pos ⟨h2, by simp [h3]⟩]
                refine ev_pos (by rw [h3]; rfl) (ih' v b hv (by omega) (by omega))
              · rw [if_neg (fun h => h3 (by simpa using h.2))]
                have : 1 ≤ pre.length := by cases pre with | nil => exact absurd rfl h3 | cons a b => simp
                exact ev_neg (by omega) (ev_some _)
            · rw [if_neg (fun h => h2 h.1)]
              exact ev_neg (fun h => h2 ((u8_eq c 45 (by omega)).1 h)) (ev_some _)
        by_cases h46 : c = 46
        · refine ev_pos ((u8_eq c 46 (by omega)).2 h46) (hj3 _ ?_)
          rw [decide_eq_decide]
          exact ⟨fun h => ⟨h46, h⟩, fun h => h.2⟩
        · refine ev_neg (fun h => h46 ((u8_eq c 46 (by omega)).1 h)) (hj3 _ ?_)
          symm; rw [decide_eq_false_iff_not]
          exact fun h => h46 h.1
      by_cases h48 : (c.toNat : Int) ≥ 48
      · refine ev_pos h48 (hj _ ?_)
        rw [decide_eq_false_iff_not]; omega
      · exact ev_neg h48 (hj _ rfl)
theorem specRead (p : Nat) (hp : p = 0 ∨ p = 2) (l : List UInt8) : Ev (fun k => spec_ReadMoney.f k (B l) (p : Int)) (if l.length > 20 then (0, false) else outO p l (rl true 0 (-1) l)) := by
  unfold spec_ReadMoney.f
  refine ev_bind0 (l1In_eq _ _ _) (ev_pos (by rcases hp with rfl | rfl <;> simp) ?_)
  have hj : ∀ b : Bool, b = decide (l.length > 20) → Ev (fun k => spec_ReadMoney.j0 k (B l) (p : Int) b) (if l.length > 20 then (0, false) else outO p l (rl true 0 (-1) l)) := by
    intro b hb
    refine Ev.step (fun _ => rfl) ?_
    simp only [spec_ReadMoney.j0]
    by_cases h : l.length > 20
    · rw [if_pos h]; exact ev_pos (by rw [hb, decide_eq_true_eq]; exact h) (ev_some _)
    · rw [if_neg h]
      refine ev_neg (by rw [hb, decide_eq_true_eq]; exact h) ?_
      have := rm_l0 p hp l (by omega) l [] 0 (-1) rfl (by omega) (by omega) (by simp only [List.length_nil]; omega)
      simpa using this
  refine hj _ ?_
  rw [decide_eq_decide, B_size]
  omega
theorem fin_ok {p v : Nat} {l full : List UInt8} (h : (fin p l full v).2 = true) : amP (fin p l full v).1 ∧ sm p (fin p l full v).1 = full := by
  unfold fin at *
  by_cases h1 : v > 100000000000
  · rw [if_pos h1] at h; cases h
  · rw [if_neg h1] at h ⊢
    by_cases h2 : sm p (if ng l = true then -(v : Int) else v) = full
    · rw [if_pos h2]
      refine ⟨?_, h2⟩
      show amP (if ng l = true then -(v : Int) else v)
      by_cases h3 : ng l = true
      · rw [if_pos h3]; unfold amP; omega
      · rw [if_neg h3]; unfold amP; omega
    · rw [if_neg h2] at h; cases h
noncomputable def rdm (p : Nat) (l : List UInt8) : Int × Bool := if l.length > 20 then (0, false) else outO p l (rl true 0 (-1) l)
theorem rdm_ok {p : Nat} {l : List UInt8} (h : (rdm p l).2 = true) : amP (rdm p l).1 ∧ (p = 0 → sm 0 (rdm p l).1 = l) := by
  unfold rdm at *
  by_cases h1 : l.length > 20
  · rw [if_pos h1] at h; cases h
  · rw [if_neg h1] at h ⊢
    cases hr : rl true 0 (-1) l with
    | none => rw [hr] at h; cases h
    | some vb =>
      obtain ⟨v, b⟩ := vb
      rw [hr] at h
      have h' : (out p l v b).2 = true := h
      show amP (out p l v b).1 ∧ (p = 0 → sm 0 (out p l v b).1 = l)
      unfold out at *
      by_cases h2 : b < 0
      · rw [if_pos h2] at h' ⊢
        obtain ⟨h3, h4⟩ := fin_ok h'
        refine ⟨h3, fun hp => ?_⟩
        subst hp
        simpa using h4
      · rw [if_neg h2] at h' ⊢
        by_cases h3 : b = 0
        · rw [if_pos h3] at h'; cases h'
        · rw [if_neg h3] at h' ⊢
          by_cases h4 : b > p
          · rw [if_pos h4] at h'; cases h'
          · rw [if_neg h4] at h' ⊢
            exact ⟨(fin_ok h').1, fun hp => by omega⟩
theorem val_ge : ∀ (ds : List UInt8) (v : Nat), v ≤ val v ds := by
  intro ds
  induction ds with
  | nil => intro v; exact Nat.le_refl _
  | cons c ds ih =>
    intro v
    show v ≤ val (v * 10 + (c.toNat - 48)) ds
    have := ih (v * 10 + (c.toNat - 48))
    omega
theorem rl_digits : ∀ (ds t : List UInt8) (f : Bool) (v : Nat) (b : Int), (∀ c ∈ ds, isD c) → val v ds ≤ 100000000000 → ds ≠ [] → rl f v b (ds ++ t) = rl false (val v ds) (if b ≥ 0 then b + ds.length else b) t := by
  intro ds
  induction ds with
  | nil => intro t f v b _ _ h; exact absurd rfl h
  | cons c ds ih =>
    intro t f v b hd hv _
    have hc := hd c (by simp)
    unfold isD at hc
    have h1 : val (v * 10 + (c.toNat - 48)) ds ≤ 100000000000 := hv
    have h2 := val_ge ds (v * 10 + (c.toNat - 48))
    rw [List.cons_append, rl, if_pos hc, if_neg (by omega)]
    by_cases hds : ds = []
    · subst hds
      rw [List.nil_append]
      have : (((c :: []).length : Nat) : Int) = 1 := rfl
      rw [this]
      rfl
    · rw [ih t false _ _ (fun x hx => hd x (by simp [hx])) h1 hds]
      have e : (if (if b ≥ 0 then b + 1 else b) ≥ 0 then (if b ≥ 0 then b + 1 else b) + (ds.length : Int) else (if b ≥ 0 then b + 1 else b)) = if b ≥ 0 then b + ((c :: ds).length : Int) else b := by
        by_cases h0 : b ≥ 0
        · rw [if_pos h0, if_pos h0, if_pos (by omega)]
          simp only [List.length_cons]; omega
        · rw [if_neg h0, if_neg h0, if_neg h0]
      rw [e]
      rfl
theorem dec_ne (n : Nat) : dec n ≠ [] := by
  intro h
  have := dec_pos n
  rw [h] at this
  simp at this
theorem dec_ng (n : Nat) (t : List UInt8) : ng (dec n ++ t) = false := by
  have h1 := dec_isD n
  cases h : dec n with
  | nil => exact absurd h (dec_ne n)
  | cons c r =>
    have := h1 c (by rw [h]; simp)
    unfold isD at this
    show (some c == some 45) = false
    have hc : c ≠ 45 := by
      intro e
      rw [e] at this
      have h45 : (45 : UInt8).toNat = 45 := rfl
      omega
    simp [hc]
theorem rdm_dec (n : Nat) (h : n ≤ 100000000000) : rdm 0 (dec n) = ((n : Int), true) := by
  have hl := dec_len (d := 11) (n := n) (by omega)
  unfold rdm
  rw [if_neg (by omega)]
  have h1 := rl_digits (dec n) [] true 0 (-1) (dec_isD n) (by rw [dec_val]; exact h) (dec_ne n)
  rw [List.append_nil, dec_val, if_neg (by omega)] at h1
  rw [h1]
  have hng : ng (dec n) = false := by have := dec_ng n []; rwa [List.append_nil] at this
  have hs : sm 0 (n : Int) = dec n := by
    unfold sm
    rw [if_neg (by omega)]
    unfold mo
    rw [if_pos rfl]
    simp
  show out 0 (dec n) n (-1) = _
  have e0 : out 0 (dec n) n (-1) = fin 0 (dec n) (dec n) n := by
    unfold out
    rw [if_pos (by omega), if_neg (show ¬ (0 : Nat) > 0 by omega)]
    simp
  rw [e0]
  unfold fin
  rw [if_neg (show ¬ n > 100000000000 by omega), hng]
  simp [hs]
theorem rdm_mon (n : Nat) (h : n ≤ 100000000000) : rdm 2 (mon n) = ((n : Int), true) := by
  have hl := mon_len h
  unfold rdm
  rw [if_neg (by omega)]
  have e10 : n / 100 * 100 + (n / 10 % 10 * 10 + n % 10) = n := by omega
  have h1 := rl_digits (dec (n / 100)) [46, dgt (n / 10 % 10), dgt (n % 10)] true 0 (-1) (dec_isD _) (by rw [dec_val]; omega) (dec_ne _)
  rw [dec_val, if_neg (by omega)] at h1
  have h2 : rl false (n / 100) (-1) [46, dgt (n / 10 % 10), dgt (n % 10)] = rl false (n / 100) 0 ([dgt (n / 10 % 10), dgt (n % 10)] ++ []) := by
    rw [rl, if_neg (by decide), if_pos ⟨rfl, by omega⟩]
    rfl
  have h3 : val (n / 100) [dgt (n / 10 % 10), dgt (n % 10)] = n := by
    show ((n / 100) * 10 + ((dgt (n / 10 % 10)).toNat - 48)) * 10 + ((dgt (n % 10)).toNat - 48) = n
    rw [dgt_toNat (by omega), dgt_toNat (by omega)]
    omega
  have h4 := rl_digits [dgt (n / 10 % 10), dgt (n % 10)] [] false (n / 100) 0 (by
    intro c hc
    rcases List.mem_cons.1 hc with rfl | hc
    · exact dgt_isD (by omega)
    · rw [List.mem_singleton.1 hc]; exact dgt_isD (by omega)) (by rw [h3]; exact h) (by simp)
  rw [h3, if_pos (by omega)] at h4
  have hm : mon n = dec (n / 100) ++ [46, dgt (n / 10 % 10), dgt (n % 10)] := rfl
  rw [hm, h1, h2, h4, ← hm]
  have hng : ng (mon n) = false := by rw [hm]; exact dec_ng _ _
  have hs : sm 2 (n : Int) = mon n := by
    unfold sm
    rw [if_neg (by omega)]
    unfold mo
    rw [if_neg (by omega)]
    simp
  show out 2 (mon n) n (0 + 2) = _
  unfold out fin
  rw [if_neg (by omega), if_neg (by omega), if_neg (by omega)]
  have e : (2 : Nat) - (0 + 2 : Int).toNat = 0 := rfl
  rw [e, Nat.pow_zero, Nat.mul_one, if_neg (by omega), hng]
  simp [hs]
end Go.Proofs.Ytjnmfadnkbflfaa.PFnExactParseFlow
