import Derived.Test.YtjnmfadnkbflfaaPShowFnExactParseFlow
import Derived.Test.YtjnmfadnkbflfaaPSpecReadFnExactParseFlow
set_option linter.unusedVariables false
set_option linter.unusedSimpArgs false
namespace Go.Proofs.Ytjnmfadnkbflfaa.PFnExactParseFlow
open Go Go.RowKit Go.Proofs.YtjnmfadnkbflfaaW.PrintWords Go.Proofs.YtjnmfadnkbflfaaW.PrintLast Go.Proofs.Ytjnmfadnkbflfaa.MapWords Go.Proofs.Ytjnmfadnkbflfaa.EvWords Go.Proofs.Ytjnmfadnkbflfaa.IterWords
open Classical
theorem evp_and {α : Type} {g : Nat → Option α} {P Q : α → Prop} (h : EvP g P) (k : EvP g Q) : EvP g (fun x => P x ∧ Q x) := by
  obtain ⟨a, h1, h2⟩ := h
  obtain ⟨b, k1, k2⟩ := k
  have e := ev_unique h1 k1
  subst e
  exact ⟨a, h1, h2, k2⟩
theorem ext_list (s : ByteArray) (a b : Nat) : (s.extract a b).toList = (s.toList.drop a).take (b - a) := by
  have h := B_ext s.toList a b
  rw [B_of] at h
  rw [h, B_list]
theorem list_len (s : ByteArray) : s.toList.length = s.size := by
  have h := B_size s.toList
  rw [B_of] at h
  exact h.symm
def pj (m : List UInt8) : List ByteArray → List UInt8
  | [] => []
  | y :: ys => y.toList ++ m ++ pj m ys
theorem pj_app (m : List UInt8) (y : ByteArray) : ∀ a : List ByteArray, pj m (a ++ [y]) = pj m a ++ (y.toList ++ m)
  | [] => by simp [pj]
  | z :: a => by
    show z.toList ++ m ++ pj m (a ++ [y]) = (z.toList ++ m ++ pj m a) ++ (y.toList ++ m)
    rw [pj_app m y a]
    simp only [List.append_assoc]
def cutP (s m : ByteArray) (r : List ByteArray) : Prop := ∃ a y, r = a ++ [y] ∧ pj m.toList a ++ y.toList = s.toList
theorem cut_join (s m : ByteArray) (hs : s.size ≤ 4000) (hm : 1 ≤ m.size ∧ m.size ≤ 10) : ∀ (n : Nat) (acc : List ByteArray) (f : Nat) (x : Int), f ≤ s.size → s.size ≤ itn x + n → acc.length ≤ f → pj m.toList acc = s.toList.take f →
    EvP (fun k => impl_cutAt.l0 k s m acc (f : Int) (f : Int) x s) (cutP s m) := by
  have fin : ∀ (acc : List ByteArray) (f : Nat) (x : Int), f ≤ s.size → s.size ≤ itn x → acc.length ≤ f → pj m.toList acc = s.toList.take f →
      EvP (fun k => impl_cutAt.l0 k s m acc (f : Int) (f : Int) x s) (cutP s m) := by
    intro acc f x hf hx ha hj
    refine ⟨_, c_end hs hx hf (by omega), acc, _, rfl, ?_⟩
    rw [hj, ext_list, List.take_of_length_le (l := List.drop f s.toList) (by rw [List.length_drop, list_len]; omega), List.take_append_drop]
  intro n
  induction n with
  | zero => intro acc f x hf hx ha hj; exact fin acc f x hf (by omega) ha hj
  | succ n ih =>
    intro acc f x hf hx ha hj
    by_cases hp : itn x < s.size
    · have hw := wid s (itn x) hp
      have hx2 : s.size ≤ itn (itw s x) + n := by rw [itn_itw]; omega
      by_cases h1 : itn x < f
      · obtain ⟨r, h2, h3⟩ := ih acc f (itw s x) hf hx2 ha hj
        exact ⟨r, c_skip hp h1 h2, h3⟩
      · by_cases h4 : s.size < itn x + m.size
        · obtain ⟨r, h2, h3⟩ := ih acc f (itw s x) hf hx2 ha hj
          exact ⟨r, c_short hs hp (by omega) h4 h2, h3⟩
        · by_cases h5 : (s.extract (itn x) (itn x + m.size)).toList = m.toList
          · obtain ⟨r, h2, h3⟩ := ih (acc ++ [s.extract f (itn x)]) (itn x + m.size) (itw s x) (by omega) hx2 (by simp only [List.length_append, List.length_singleton]; omega) (by
              have h6 := h5
              rw [ext_list, Nat.add_sub_cancel_left] at h6
              rw [pj_app, hj, ext_list, List.take_add, h6, ← List.append_assoc]
              congr 1
              have e : itn x = f + (itn x - f) := by omega
              rw [show List.take (itn x) s.toList = List.take (f + (itn x - f)) s.toList from by rw [← e], List.take_add])
            exact ⟨r, c_hit hs (by omega) (by omega) hm.1 (by omega) h5 h2, h3⟩
          · obtain ⟨r, h2, h3⟩ := ih acc f (itw s x) hf hx2 ha hj
            exact ⟨r, c_miss hs (by omega) (by omega) hm.1 h5 h2, h3⟩
    · exact fin acc f x hf (by omega) ha hj
theorem cutJoin (s m : ByteArray) (hs : s.size ≤ 4000) (hm : 1 ≤ m.size ∧ m.size ≤ 10) : EvP (fun k => impl_cutAt.f k s m) (cutP s m) :=
  cut_join s m hs hm s.size [] 0 0 (by omega) (by show s.size ≤ itn 0 + s.size; omega) (by simp) rfl
theorem tl_jn (p : List UInt8) (ps : List (List UInt8)) : tl 44 32 (p :: ps) = 44 :: 32 :: jn (p :: ps) := rfl
theorem jn_pj (y : ByteArray) : ∀ a : List ByteArray, jn (bl (a ++ [y])) = pj [44, 32] a ++ y.toList
  | [] => by simp [jn, bl, tl, pj]
  | z :: a => by
    have h := jn_pj y a
    have e : jn (bl (z :: a ++ [y])) = z.toList ++ tl 44 32 (bl (a ++ [y])) := rfl
    have e2 : ∃ p ps, bl (a ++ [y]) = p :: ps := by
      cases a with
      | nil => exact ⟨_, _, rfl⟩
      | cons b a => exact ⟨_, _, rfl⟩
    obtain ⟨p, ps, e2⟩ := e2
    rw [e, e2, tl_jn, ← e2, h]
    simp [pj]
def isLn (l : List UInt8) (x : Stp) : Prop := stpP x ∧ l = ln x
def okS2 (s : ByteArray) (r : Int × List ByteArray × Bool) : Prop := r.2.2 = true → isLn s.toList ⟨r.1, r.2.1⟩
theorem okS2_fail {s : ByteArray} : okS2 s (0, [], false) := fun h => by cases h
theorem stepSound (s : ByteArray) (hs : s.size ≤ 4000) : EvP (fun k => impl_readStep.f k s) (okS2 s) := by
  have h1 : ∀ (x : List ByteArray) (o : Int) (b : Bool), 2 ≤ x.length → (∀ y ∈ x, y.size ≤ 4000) → (b = false → (0 ≤ o ∧ o ≤ 100000000000) ∧ ∀ rs, (nm x 1).toList = jn (bl rs) → s.toList = lineOf (smo o) rs) → EvP (fun k => impl_readStep.j1 k x o b) (okS2 s) := by
    intro x o b hx hy hb
    by_cases h : b = true
    · subst h; exact ⟨_, r_fail1, okS2_fail⟩
    · refine evp_step (fun _ => rfl) ?_
      simp only [impl_readStep.j1]
      have hz : (nm x 1).size ≤ 4000 := nm_sz hy 1 (by omega)
      refine evp_neg h (evp_pos (by omega) (evp_bind (evp_and (cutAny (nm x 1) _ hz ⟨by decide, by decide⟩) (cutJoin (nm x 1) _ hz ⟨by decide, by decide⟩)) (fun rs hrs => ?_)))
      obtain ⟨hrs, a, y, e1, e2⟩ := hrs
      by_cases h8 : (rs.length : Int) > 8
      · exact evp_pos h8 (evp_some okS2_fail)
      · refine evp_neg h8 ⟨_, r_roles o rs (by omega) (fun y hy2 => Nat.le_trans (hrs.2 y hy2) hz), ?_⟩
        by_cases hp : rolesP rs
        · rw [if_pos hp]
          obtain ⟨g1, g2⟩ := hb (by simpa using h)
          refine fun _ => ⟨⟨g1, ⟨hrs.1.1, by show rs.length ≤ 8; omega⟩, hp⟩, g2 rs ?_⟩
          rw [e1, jn_pj]
          rw [show (⟨#[44, 32]⟩ : ByteArray).toList = [44, 32] from B_list [44, 32]] at e2
          exact e2.symm
        · rw [if_neg hp]; exact okS2_fail
  have h0 : ∀ b : Bool, (b = false → 5 ≤ s.size ∧ s.toList.take 5 = [111, 118, 101, 114, 32]) → EvP (fun k => impl_readStep.j0 k s b) (okS2 s) := by
    intro b hb
    by_cases h : b = true
    · subst h; exact ⟨_, r_fail0, okS2_fail⟩
    · obtain ⟨h5, h6⟩ := hb (by simpa using h)
      refine evp_step (fun _ => rfl) ?_
      simp only [impl_readStep.j0]
      have hz : (s.extract 5 s.size).size ≤ 4000 := by rw [ByteArray.size_extract]; omega
      refine evp_neg h (evp_pos (by omega) (evp_bind (evp_and (cutAny _ _ hz ⟨by decide, by decide⟩) (cutJoin _ _ hz ⟨by decide, by decide⟩)) (fun x hx => ?_)))
      obtain ⟨hx, a, y, e1, e2⟩ := hx
      by_cases h2 : (x.length : Int) = 2
      · have hx2 : ∀ y ∈ x, y.size ≤ 4000 := fun y hy => Nat.le_trans (hx.2 y hy) hz
        have hz0 : (nm x 0).size ≤ 4000 := nm_sz hx2 0 (by omega)
        have hj : s.toList = [111, 118, 101, 114, 32] ++ ((nm x 0).toList ++ (58 :: 32 :: (nm x 1).toList)) := by
          obtain ⟨z, rfl⟩ : ∃ z, a = [z] := by
            rw [e1] at h2
            match a, h2 with
            | [], h2 => simp at h2
            | [z], _ => exact ⟨z, rfl⟩
            | z :: w :: a, h2 => simp at h2; omega
          subst e1
          rw [ext_list, List.take_of_length_le (by rw [List.length_drop, list_len]; omega), show (⟨#[58, 32]⟩ : ByteArray).toList = [58, 32] from B_list [58, 32]] at e2
          have e3 : nm ([z] ++ [y]) 0 = z := rfl
          have e4 : nm ([z] ++ [y]) 1 = y := rfl
          rw [e3, e4]
          rw [← List.take_append_drop 5 s.toList, h6, ← e2]
          show [111, 118, 101, 114, 32] ++ ((z.toList ++ [58, 32] ++ []) ++ y.toList) = _
          simp
        have hm := readAny (nm x 0).toList (by rw [list_len]; omega)
        rw [B_of] at hm
        refine evp_pos h2 (evp_pos (by omega) (evp_bind hm (fun v hv => ?_)))
        by_cases h3 : v.2 = true
        · refine evp_pos h3 ?_
          by_cases h4 : v.1 < 0
          · exact evp_pos h4 ⟨_, r_fail1, okS2_fail⟩
          · refine evp_neg h4 (evp_bind (evp_ev (implMoney v.1)) (fun t ht => ?_))
            refine h1 x v.1 _ (by omega) hx2 (fun hf => ⟨⟨by omega, (hv.1 h3).2⟩, fun rs hr => ?_⟩)
            subst ht
            have e5 : (nm x 0).toList = smo v.1 := by
              have : (B (smo v.1)).toList = (nm x 0).toList := by
                rw [← nm_rd]
                simpa [bne] using hf
              rw [B_list] at this
              exact this.symm
            rw [hj, e5, hr]
            unfold lineOf
            show _ = [111, 118, 101, 114, 32] ++ (smo v.1 ++ (58 :: 32 :: (jn (bl rs) ++ [])))
            rw [List.append_nil]
        · exact evp_neg h3 ⟨_, r_fail1, okS2_fail⟩
      · exact evp_neg h2 (evp_some okS2_fail)
  unfold impl_readStep.f
  by_cases h : (s.size : Int) < 5
  · exact evp_pos h (h0 true (fun e => by cases e))
  · refine evp_neg h (evp_pos (by omega) (evp_pos (by omega) (h0 _ (fun e => ⟨by omega, ?_⟩))))
    have e6 : (s.extract 0 5).toList = [111, 118, 101, 114, 32] := by
      by_cases h7 : (s.extract 0 5).toList = [111, 118, 101, 114, 32]
      · exact h7
      · simp [h7] at e
    rw [ext_list, List.drop_zero] at e6
    exact e6
theorem implLine (l : List UInt8) (hl : l.length ≤ 2000) : (∃ x, isLn l x ∧ Ev (fun k => impl_readStep.f k (B l)) (x.f0, x.f1, true)) ∨ ((∀ x, ¬ isLn l x) ∧ ∃ v, Ev (fun k => impl_readStep.f k (B l)) v ∧ v.2.2 ≠ true) := by
  obtain ⟨v, h1, h2⟩ := stepSound (B l) (by rw [B_size]; omega)
  by_cases h : v.2.2 = true
  · have h3 := h2 h
    rw [B_list] at h3
    refine .inl ⟨_, h3, ev_eq h1 ?_⟩
    obtain ⟨a, b, c⟩ := v
    exact congrArg (fun c => (a, b, c)) h
  · refine .inr ⟨fun x hx => h ?_, v, h1, h⟩
    have h4 := stepExact x.f0.toNat x.f1 (by have := hx.1.1; rw [show ((x.f0.toNat : Nat) : Int) = x.f0 by omega]; exact hx.1)
    rw [← smo_mon hx.1.1, show lineOf (smo x.f0) x.f1 = l from hx.2.symm] at h4
    rw [ev_unique h1 h4]
end Go.Proofs.Ytjnmfadnkbflfaa.PFnExactParseFlow

set_option linter.unusedVariables false
set_option linter.unusedSimpArgs false
namespace Go.Proofs.Ytjnmfadnkbflfaa.PFnExactParseFlow
open Go Go.RowKit Go.Proofs.YtjnmfadnkbflfaaW.PrintWords Go.Proofs.YtjnmfadnkbflfaaW.PrintLast Go.Proofs.Ytjnmfadnkbflfaa.MapWords Go.Proofs.Ytjnmfadnkbflfaa.EvWords Go.Proofs.Ytjnmfadnkbflfaa.IterWords
open Classical
def sp2 (c d : UInt8) : List UInt8 → List UInt8 → List (List UInt8)
  | cur, [] => [cur]
  | cur, [a] => [cur ++ [a]]
  | cur, a :: b :: r => if a = c ∧ b = d then cur :: sp2 c d [] r else sp2 c d (cur ++ [a]) (b :: r)
theorem w_add1 (p : Nat) (h : p ≤ 5000) : wrap64 ((p : Int) + 1) = ((p + 1 : Nat) : Int) := by rw [wrap_id (by omega) (by omega)]; omega
theorem w_add2 (p : Nat) (h : p ≤ 5000) : wrap64 ((p : Int) + 2) = ((p + 2 : Nat) : Int) := by rw [wrap_id (by omega) (by omega)]; omega
section
variable {s m : ByteArray} {acc : List ByteArray} {q p : Nat} {R : List ByteArray}
theorem s2_end (hm : m.size = 2) (hs : s.size ≤ 4000) (h : s.size < p + 2) (hp : p ≤ s.size + 2) (hq : q ≤ s.size) (ha : acc.length ≤ 4000) : Ev (fun k => spec_l11Split.l0 k s m acc (q : Int) (p : Int)) (acc ++ [s.extract q s.size]) := by
  refine Ev.step (fun _ => rfl) ?_
  simp only [spec_l11Split.l0]
  rw [hm, show ((2 : Nat) : Int) = 2 from rfl, w_add2 p (by omega)]
  refine ev_neg (by omega) (ev_pos (by omega) (ev_pos (by omega) (ev_pos (by omega) (ev_eq (ev_some _) ?_))))
  rw [Int.toNat_natCast]
theorem s2_skip (hm : m.size = 2) (hs : s.size ≤ 4000) (h : p + 2 ≤ s.size) (hq : p < q) (h2 : Ev (fun k => spec_l11Split.l0 k s m acc (q : Int) ((p + 1 : Nat) : Int)) R) : Ev (fun k => spec_l11Split.l0 k s m acc (q : Int) (p : Int)) R := by
  refine Ev.step (fun _ => rfl) ?_
  simp only [spec_l11Split.l0]
  rw [hm, show ((2 : Nat) : Int) = 2 from rfl, w_add2 p (by omega), w_add1 p (by omega)]
  exact ev_pos (by omega) (ev_neg (by omega) h2)
theorem s2_miss (hm : m.size = 2) (hs : s.size ≤ 4000) (h : p + 2 ≤ s.size) (hq : q ≤ p) (he : ¬ (s.extract p (p + 2)).toList = m.toList) (h2 : Ev (fun k => spec_l11Split.l0 k s m acc (q : Int) ((p + 1 : Nat) : Int)) R) : Ev (fun k => spec_l11Split.l0 k s m acc (q : Int) (p : Int)) R := by
  refine Ev.step (fun _ => rfl) ?_
  simp only [spec_l11Split.l0]
  rw [hm, show ((2 : Nat) : Int) = 2 from rfl, w_add2 p (by omega), w_add1 p (by omega)]
  refine ev_pos (by omega) (ev_pos (by omega) (ev_pos (by omega) (ev_pos (by omega) (ev_neg ?_ h2))))
  rw [Int.toNat_natCast, Int.toNat_natCast]
  exact he
theorem s2_hit (hm : m.size = 2) (hs : s.size ≤ 4000) (h : p + 2 ≤ s.size) (hq : q ≤ p) (ha : acc.length ≤ 4000) (he : (s.extract p (p + 2)).toList = m.toList) (h2 : Ev (fun k => spec_l11Split.l0 k s m (acc ++ [s.extract q p]) ((p + 2 : Nat) : Int) ((p + 1 : Nat) : Int)) R) : Ev (fun k => spec_l11Split.l0 k s m acc (q : Int) (p : Int)) R := by
  refine Ev.step (fun _ => rfl) ?_
  simp only [spec_l11Split.l0]
  rw [hm, show ((2 : Nat) : Int) = 2 from rfl, w_add2 p (by omega), w_add1 p (by omega)]
  refine ev_pos (by omega) (ev_pos (by omega) (ev_pos (by omega) (ev_pos (by omega) (ev_pos ?_ (ev_pos (by omega) (ev_pos (by omega) (ev_pos (by omega) (ev_pos (by omega) ?_))))))))
  · rw [Int.toNat_natCast, Int.toNat_natCast]
    exact he
  · rw [Int.toNat_natCast, Int.toNat_natCast]
    exact h2
end
theorem ext_mid (a b r : List UInt8) : (B (a ++ b ++ r)).extract a.length (a ++ b).length = B b := by
  rw [B_ext, List.append_assoc, List.drop_left, List.length_append, Nat.add_sub_cancel_left, List.take_left]
theorem ext_two (a r : List UInt8) (x y : UInt8) : (B (a ++ x :: y :: r)).extract a.length (a.length + 2) = B [x, y] := by
  rw [B_ext, List.drop_left, Nat.add_sub_cancel_left]
  rfl
theorem ext_fin (a r : List UInt8) : (B (a ++ r)).extract a.length (B (a ++ r)).size = B r := by
  rw [B_ext, List.drop_left, B_size, List.take_of_length_le (by rw [List.length_append]; omega)]
theorem split2_loop (c d : UInt8) : ∀ (n : Nat) (r pre cur : List UInt8) (acc : List (List UInt8)), r.length ≤ n → (pre ++ cur ++ r).length ≤ 4000 → acc.length ≤ pre.length →
    Ev (fun k => spec_l11Split.l0 k (B (pre ++ cur ++ r)) (B [c, d]) (acc.map B) ((pre.length : Nat) : Int) (((pre ++ cur).length : Nat) : Int)) ((acc ++ sp2 c d cur r).map B) := by
  have hm : (B [c, d]).size = 2 := rfl
  have fin : ∀ (r pre cur : List UInt8) (acc : List (List UInt8)), r.length < 2 → (pre ++ cur ++ r).length ≤ 4000 → acc.length ≤ pre.length →
      Ev (fun k => spec_l11Split.l0 k (B (pre ++ cur ++ r)) (B [c, d]) (acc.map B) ((pre.length : Nat) : Int) (((pre ++ cur).length : Nat) : Int)) ((acc ++ [cur ++ r]).map B) := by
    intro r pre cur acc hr hl ha
    have h1 : (pre ++ cur ++ r).length = (pre ++ cur).length + r.length := List.length_append
    have h2 : (pre ++ cur).length = pre.length + cur.length := List.length_append
    refine ev_eq (s2_end hm (by rw [B_size]; exact hl) (by rw [B_size, h1]; omega) (by rw [B_size, h1]; omega) (by rw [B_size, h1, h2]; omega) (by rw [List.length_map]; omega)) ?_
    rw [List.append_assoc, ext_fin, List.map_append]
    rfl
  intro n
  induction n with
  | zero =>
    intro r pre cur acc hn hl ha
    have : r = [] := List.length_eq_zero_iff.1 (by omega)
    subst this
    have h := fin [] pre cur acc (by simp) hl ha
    rw [show sp2 c d cur [] = [cur ++ []] from by rw [sp2, List.append_nil]]
    exact h
  | succ n ih =>
    intro r pre cur acc hn hl ha
    rcases r with _ | ⟨a, _ | ⟨b, r⟩⟩
    · have h := fin [] pre cur acc (by simp) hl ha
      rw [show sp2 c d cur [] = [cur ++ []] from by rw [sp2, List.append_nil]]
      exact h
    · have h := fin [a] pre cur acc (by simp) hl ha
      rw [show sp2 c d cur [a] = [cur ++ [a]] from by rw [sp2]]
      exact h
    · have hn' : r.length + 1 ≤ n := by simpa using hn
      clear hn fin
      have h1 : (pre ++ cur ++ a :: b :: r).length = (pre ++ cur).length + (r.length + 2) := by rw [List.length_append, List.length_cons, List.length_cons]
      have h2 : (pre ++ cur).length = pre.length + cur.length := List.length_append
      have hz : (B (pre ++ cur ++ a :: b :: r)).size = (pre ++ cur).length + (r.length + 2) := h1
      rw [h1] at hl
      by_cases hc : a = c ∧ b = d
      · obtain ⟨rfl, rfl⟩ := hc
        rw [sp2, if_pos ⟨rfl, rfl⟩]
        refine s2_hit hm (by rw [hz]; exact hl) (by rw [hz]; omega) (by rw [h2]; omega) (by rw [List.length_map]; omega) (by rw [ext_two]) ?_
        rw [ext_mid]
        have e4 : acc.map B ++ [B cur] = (acc ++ [cur]).map B := by simp
        have e5 : acc ++ cur :: sp2 a b [] r = (acc ++ [cur]) ++ sp2 a b [] r := by simp
        have e0 : pre ++ cur ++ a :: b :: r = (pre ++ cur ++ [a, b]) ++ [] ++ r := by simp
        have e3 : (pre ++ cur ++ [a, b]).length = (pre ++ cur).length + 2 := by rw [List.length_append]; rfl
        have e2 : (pre ++ cur ++ [a, b] ++ []).length = (pre ++ cur).length + 2 := by rw [List.append_nil]; exact e3
        rw [e4, e5]
        have h5 := ih r (pre ++ cur ++ [a, b]) [] (acc ++ [cur]) (by omega) (by rw [← e0, h1]; exact hl) (by rw [e3, List.length_append, List.length_singleton, h2]; omega)
        rw [← e0, e2, e3] at h5
        by_cases hr : 1 ≤ r.length
        · exact s2_skip hm (by rw [hz]; exact hl) (by rw [hz]; omega) (by omega) h5
        · have hr0 : r = [] := List.length_eq_zero_iff.1 (by omega)
          subst hr0
          have h6 := s2_end (s := B (pre ++ cur ++ [a, b])) (acc := (acc ++ [cur]).map B) (q := (pre ++ cur).length + 2) (p := (pre ++ cur).length + 1) hm (by rw [hz]; exact hl) (by rw [hz]; simp) (by rw [hz]; omega) (by rw [hz]; simp) (by rw [List.length_map, List.length_append, List.length_singleton]; omega)
          have h7 := s2_end (s := B (pre ++ cur ++ [a, b])) (acc := (acc ++ [cur]).map B) (q := (pre ++ cur).length + 2) (p := (pre ++ cur).length + 2) hm (by rw [hz]; exact hl) (by rw [hz]; simp) (by rw [hz]; omega) (by rw [hz]; simp) (by rw [List.length_map, List.length_append, List.length_singleton]; omega)
          rw [ev_unique h5 h7]
          exact h6
      · rw [sp2, if_neg hc]
        have e0 : pre ++ cur ++ a :: b :: r = pre ++ (cur ++ [a]) ++ b :: r := by simp
        have e2 : (pre ++ (cur ++ [a])).length = (pre ++ cur).length + 1 := by rw [← List.append_assoc, List.length_append, List.length_singleton]
        have h5 := ih (b :: r) pre (cur ++ [a]) acc (by rw [List.length_cons]; omega) (by rw [← e0, h1]; exact hl) ha
        rw [← e0, e2] at h5
        refine s2_miss hm (by rw [hz]; exact hl) (by rw [hz]; omega) (by rw [h2]; omega) ?_ h5
        rw [ext_two, B_list, B_list]
        exact fun h => hc (by injection h with h1 h2; injection h2 with h2 _; exact ⟨h1, h2⟩)
theorem split2 (l : List UInt8) (hl : l.length ≤ 4000) (c d : UInt8) : Ev (fun k => spec_l11Split.f k (B l) (B [c, d])) ((sp2 c d [] l).map B) :=
  split2_loop c d l.length l [] [] [] (Nat.le_refl _) hl (by simp)
theorem sp2_size (c d : UInt8) : ∀ (n : Nat) (r cur : List UInt8), r.length ≤ n → ∀ y ∈ sp2 c d cur r, y.length ≤ cur.length + r.length := by
  intro n
  induction n with
  | zero =>
    intro r cur hn y hy
    have : r = [] := List.length_eq_zero_iff.1 (by omega)
    subst this
    rw [sp2, List.mem_singleton] at hy
    subst hy
    simp
  | succ n ih =>
    intro r cur hn y hy
    match r, hn, hy with
    | [], _, hy => rw [sp2, List.mem_singleton] at hy; subst hy; simp
    | [a], _, hy => rw [sp2, List.mem_singleton] at hy; subst hy; simp
    | a :: b :: r, hn, hy =>
      have hn' : r.length + 2 ≤ n + 1 := hn
      rw [sp2] at hy
      by_cases hc : a = c ∧ b = d
      · rw [if_pos hc, List.mem_cons] at hy
        rcases hy with rfl | hy
        · simp only [List.length_cons]; omega
        · have := ih r [] (by omega) y hy
          simp only [List.length_nil, List.length_cons] at this ⊢
          omega
      · rw [if_neg hc] at hy
        have := ih (b :: r) (cur ++ [a]) (by simp only [List.length_cons]; omega) y hy
        simp only [List.length_append, List.length_cons, List.length_nil] at this ⊢
        omega
theorem sp2_run (c d : UInt8) (r : List UInt8) : ∀ (u cur : List UInt8), (∀ x ∈ u, x ≠ c) → sp2 c d cur (u ++ c :: d :: r) = (cur ++ u) :: sp2 c d [] r
  | [], cur, _ => by
    rw [List.nil_append, sp2, if_pos ⟨rfl, rfl⟩, List.append_nil]
  | a :: u, cur, h => by
    have h1 := sp2_run c d r u (cur ++ [a]) (fun x hx => h x (List.mem_cons_of_mem _ hx))
    obtain ⟨b, t, e⟩ : ∃ b t, u ++ c :: d :: r = b :: t := by
      cases u with
      | nil => exact ⟨_, _, rfl⟩
      | cons b u => exact ⟨_, _, rfl⟩
    rw [List.cons_append, e, sp2, if_neg (fun g => h a (by simp) g.1), ← e, h1]
    simp
theorem sp2_fin (c d : UInt8) : ∀ (u cur : List UInt8), (∀ x ∈ u, x ≠ c) → sp2 c d cur u = [cur ++ u]
  | [], cur, _ => by rw [sp2, List.append_nil]
  | [a], cur, _ => by rw [sp2]
  | a :: b :: u, cur, h => by
    rw [sp2, if_neg (fun g => h a (by simp) g.1), sp2_fin c d (b :: u) (cur ++ [a]) (fun x hx => h x (List.mem_cons_of_mem _ hx))]
    simp
theorem sp2_jn : ∀ (ps : List (List UInt8)) (x : List UInt8), (∀ p ∈ x :: ps, ∀ c ∈ p, c ≠ 44) → sp2 44 32 [] (jn (x :: ps)) = x :: ps
  | [], x, h => by
    show sp2 44 32 [] (x ++ []) = [x]
    rw [List.append_nil, sp2_fin 44 32 x [] (h x (by simp)), List.nil_append]
  | p :: ps, x, h => by
    show sp2 44 32 [] (x ++ tl 44 32 (p :: ps)) = _
    rw [tl_jn, sp2_run 44 32 _ x [] (h x (by simp)), sp2_jn ps p (fun q hq => h q (List.mem_cons_of_mem _ hq)), List.nil_append]
end Go.Proofs.Ytjnmfadnkbflfaa.PFnExactParseFlow

set_option linter.unusedVariables false
set_option linter.unusedSimpArgs false
namespace Go.Proofs.Ytjnmfadnkbflfaa.PFnExactParseFlow
open Go Go.RowKit Go.Proofs.YtjnmfadnkbflfaaW.PrintWords Go.Proofs.YtjnmfadnkbflfaaW.PrintLast Go.Proofs.Ytjnmfadnkbflfaa.MapWords Go.Proofs.Ytjnmfadnkbflfaa.EvWords Go.Proofs.Ytjnmfadnkbflfaa.IterWords
open Classical
theorem ln_inj {x y : Stp} (hx : stpP x) (hy : stpP y) (e : ln x = ln y) : x = y := by
  have h4 := stepExact x.f0.toNat x.f1 (by have := hx.1; rw [show ((x.f0.toNat : Nat) : Int) = x.f0 by omega]; exact hx)
  have h5 := stepExact y.f0.toNat y.f1 (by have := hy.1; rw [show ((y.f0.toNat : Nat) : Int) = y.f0 by omega]; exact hy)
  rw [← smo_mon hx.1, show lineOf (smo x.f0) x.f1 = ln x from rfl, e] at h4
  rw [← smo_mon hy.1, show lineOf (smo y.f0) y.f1 = ln y from rfl] at h5
  have h6 := ev_unique h4 h5
  injection h6 with h7 h8
  injection h8 with h8 _
  have := hx.1
  have := hy.1
  have h9 : x.f0 = y.f0 := by omega
  cases x
  cases y
  simp only at h8 h9
  rw [h8, h9]
theorem colon (F : List Stp) (ls : List ByteArray) (i : Int) (s : ByteArray) (hs : s.size ≤ 4000) (o : Int) : ∃ a : Nat, a ≤ s.size ∧ (∀ j : Nat, j < a → bt s (j : Nat) ≠ 58) ∧ (a < s.size → bt s (a : Nat) = 58) ∧
    ∀ r, Ev (fun k => spec_ParseFlow.j2 k F ls i s (a : Int) o) r → Ev (fun k => spec_ParseFlow.l1 k F ls i s 0 o) r := by
  have main : ∀ d n : Nat, n + d = s.size → (∀ j : Nat, j < n → bt s (j : Nat) ≠ 58) → ∃ a : Nat, a ≤ s.size ∧ (∀ j : Nat, j < a → bt s (j : Nat) ≠ 58) ∧ (a < s.size → bt s (a : Nat) = 58) ∧
      ∀ r, Ev (fun k => spec_ParseFlow.j2 k F ls i s (a : Int) o) r → Ev (fun k => spec_ParseFlow.l1 k F ls i s (n : Int) o) r := by
    intro d
    induction d with
    | zero =>
      intro n hn hj
      refine ⟨n, by omega, hj, fun h => by omega, fun r h => ?_⟩
      refine Ev.step (fun _ => rfl) ?_
      simp only [spec_ParseFlow.l1]
      exact ev_neg (by omega) h
    | succ d ih =>
      intro n hn hj
      by_cases hb : bt s (n : Nat) = 58
      · refine ⟨n, by omega, hj, fun _ => hb, fun r h => ?_⟩
        refine Ev.step (fun _ => rfl) ?_
        simp only [spec_ParseFlow.l1]
        exact ev_pos (by omega) (ev_pos (by omega) (ev_pos hb h))
      · obtain ⟨a, h1, h2, h3, h4⟩ := ih (n + 1) (by omega) (fun j h => by
          by_cases hji : j = n
          · subst hji; exact hb
          · exact hj j (by omega))
        refine ⟨a, h1, h2, h3, fun r h => ?_⟩
        refine Ev.step (fun _ => rfl) ?_
        simp only [spec_ParseFlow.l1]
        refine ev_pos (by omega) (ev_pos (by omega) (ev_neg hb ?_))
        rw [wrap_succ (n := s.size) (by omega) (by omega)]
        exact h4 r h
  exact main s.size 0 (by omega) (fun j h => by omega)
theorem u58 (c : UInt8) : (c.toNat : Int) = 58 ↔ c = 58 := u8_eq c 58 (by decide)
theorem spec_xs (F : List Stp) (ls : List ByteArray) (i : Int) (l : List UInt8) (hl : l.length ≤ 2000) : ∃ o rs, (∀ y ∈ rs, y.size ≤ 4000) ∧ (∀ x, stpP x → l = ln x ++ [10] → o = x.f0 ∧ rs = x.f1) ∧
    ∀ r, Ev (fun k => spec_ParseFlow.j4 k F ls i (B l) o rs) r → Ev (fun k => spec_ParseFlow.l1 k F ls i (B l) 0 0) r := by
  have hz : (B l).size = l.length := rfl
  obtain ⟨a, h1, h2, h3, h4⟩ := colon F ls i (B l) (by omega) 0
  rw [hz] at h1 h3
  have key : ∀ x, stpP x → l = ln x ++ [10] → (l.length > 5 ∧ a + 2 < l.length ∧ a ≥ 5) ∧ (l.drop 5).take (a - 5) = mon x.f0.toNat ∧ (l.drop (a + 2)).take (l.length - 1 - (a + 2)) = jn (bl x.f1) := by
    intro x hx e
    have hx0 := hx.1
    obtain ⟨u, hu⟩ : ∃ u, u = [111, 118, 101, 114, 32] ++ mon x.f0.toNat := ⟨_, rfl⟩
    have hm := mon_len (n := x.f0.toNat) (by omega)
    have hul : u.length = 5 + (mon x.f0.toNat).length := by rw [hu, List.length_append]; rfl
    have e2 : l = u ++ 58 :: 32 :: (jn (bl x.f1) ++ [10]) := by
      rw [e, hu]
      unfold ln lineOf
      rw [smo_mon hx.1]
      show _ ++ (mon _ ++ (58 :: 32 :: (jn (bl x.f1) ++ []))) ++ [10] = _
      simp
    have hll : l.length = u.length + (2 + ((jn (bl x.f1)).length + 1)) := by rw [e2, List.length_append]; simp only [List.length_cons, List.length_append, List.length_nil]; omega
    have hno : ∀ c ∈ u, c ≠ 58 := by
      intro c hc
      rw [hu] at hc
      rcases List.mem_append.1 hc with hc | hc
      · simp only [List.mem_cons, List.not_mem_nil, or_false] at hc
        rcases hc with rfl | rfl | rfl | rfl | rfl <;> decide
      · exact (mon_lt hc).2.1
    have ha : a = u.length := by
      by_cases g1 : a < u.length
      · exfalso
        have g2 := h3 (by omega)
        rw [B_bt l a (by omega), u58] at g2
        have g3 : l[a]'(by omega) = u[a]'g1 := by
          have : l[a]? = u[a]? := by rw [e2, List.getElem?_append_left g1]
          rw [List.getElem?_eq_getElem (by omega), List.getElem?_eq_getElem g1] at this
          exact Option.some.inj this
        exact hno _ (List.getElem_mem g1) (by rw [← g3]; exact g2)
      · by_cases g2 : u.length < a
        · exfalso
          refine h2 u.length g2 ?_
          rw [e2, bt_mid]
          rfl
        · omega
    refine ⟨by omega, ?_, ?_⟩
    · rw [e2, hu, List.append_assoc]
      show ((mon x.f0.toNat) ++ _).take (a - 5) = _
      rw [show a - 5 = (mon x.f0.toNat).length by omega, List.take_left]
    · have e3 : l = (u ++ [58, 32]) ++ (jn (bl x.f1) ++ [10]) := by rw [e2]; simp
      have e4 : (u ++ [58, 32]).length = a + 2 := by rw [List.length_append, ha]; rfl
      have e5 : l.length - 1 - (a + 2) = (jn (bl x.f1)).length := by omega
      rw [e5, e3, ← e4, List.drop_left, List.take_left]
  by_cases hc : l.length > 5 ∧ a + 2 < l.length ∧ a ≥ 5
  · refine ⟨(rdm 2 ((l.drop 5).take (a - 5))).1, (sp2 44 32 [] ((l.drop (a + 2)).take (l.length - 1 - (a + 2)))).map B, ?_, ?_, ?_⟩
    · intro y hy
      obtain ⟨z, hz2, rfl⟩ := List.mem_map.1 hy
      have := sp2_size 44 32 _ _ [] (Nat.le_refl _) z hz2
      rw [B_size]
      simp only [List.length_nil, List.length_take] at this
      omega
    · intro x hx e
      obtain ⟨_, k1, k2⟩ := key x hx e
      have hx0 := hx.1
      rw [k1, k2, rdm_mon _ (by omega)]
      refine ⟨by show ((x.f0.toNat : Nat) : Int) = x.f0; omega, ?_⟩
      have hn := step_names hx
      have hb : ∃ p ps, bl x.f1 = p :: ps := by
        have := hx.2.1.1
        cases hx1 : x.f1 with
        | nil => rw [hx1] at this; simp at this
        | cons b a => exact ⟨_, _, rfl⟩
      obtain ⟨p, ps, hb⟩ := hb
      rw [hb, sp2_jn ps p (fun q hq c hc => (nb_lt ((hn q (by rw [hb]; exact hq)).2 c hc)).2.1), ← hb, bl_B]
    · intro r hr
      refine h4 r ?_
      have w1 : wrap64 ((a : Int) + 2) = ((a + 2 : Nat) : Int) := by rw [wrap_id (by omega) (by omega)]; omega
      have w2 : wrap64 ((l.length : Int) - 1) = ((l.length - 1 : Nat) : Int) := by rw [wrap_id (by omega) (by omega)]; omega
      refine Ev.step (fun _ => rfl) ?_
      simp only [spec_ParseFlow.j2]
      rw [hz, w1]
      refine ev_pos (by omega) (ev_pos (by omega) ?_)
      rw [decide_eq_true (show (a : Int) ≥ 5 by omega)]
      refine Ev.step (fun _ => rfl) ?_
      simp only [spec_ParseFlow.j3]
      rw [hz, w1, w2]
      refine ev_pos trivial (ev_pos (by omega) (ev_pos (by omega) ?_))
      rw [B_ext, B_ext, Int.toNat_natCast, Int.toNat_natCast, Int.toNat_natCast]
      refine ev_bind (specRead 2 (.inr rfl) _) (ev_pos (by omega) (ev_pos (by omega) (ev_pos (by omega) (ev_bind (split2 _ (by rw [List.length_take, List.length_drop]; omega) 44 32) hr))))
  · refine ⟨0, [], by simp, fun x hx e => absurd (key x hx e).1 hc, fun r hr => h4 r ?_⟩
    have w1 : wrap64 ((a : Int) + 2) = ((a + 2 : Nat) : Int) := by rw [wrap_id (by omega) (by omega)]; omega
    have hj : ∀ b : Bool, b = false → Ev (fun k => spec_ParseFlow.j3 k F ls i (B l) (a : Int) b 0) r := by
      intro b hb
      refine Ev.step (fun _ => rfl) ?_
      simp only [spec_ParseFlow.j3]
      exact ev_neg (by rw [hb]; simp) hr
    refine Ev.step (fun _ => rfl) ?_
    simp only [spec_ParseFlow.j2]
    rw [hz, w1]
    by_cases g1 : (l.length : Int) > 5
    · refine ev_pos g1 ?_
      by_cases g2 : ((a + 2 : Nat) : Int) < (l.length : Int)
      · exact ev_pos g2 (hj _ (decide_eq_false (by omega)))
      · exact ev_neg g2 (hj _ rfl)
    · exact ev_neg g1 (hj _ rfl)
end Go.Proofs.Ytjnmfadnkbflfaa.PFnExactParseFlow

set_option linter.unusedVariables false
set_option linter.unusedSimpArgs false
namespace Go.Proofs.Ytjnmfadnkbflfaa.PFnExactParseFlow
open Go Go.RowKit Go.Proofs.YtjnmfadnkbflfaaW.PrintWords Go.Proofs.YtjnmfadnkbflfaaW.PrintLast Go.Proofs.Ytjnmfadnkbflfaa.MapWords Go.Proofs.Ytjnmfadnkbflfaa.EvWords Go.Proofs.Ytjnmfadnkbflfaa.IterWords
open Classical
noncomputable def lnOf (s : List UInt8) : Option Stp := if h : ∃ x, isLn s x then some (Classical.choose h) else none
theorem lnOf_some {s : List UInt8} {x : Stp} (h : isLn s x) : lnOf s = some x := by
  have e : ∃ x, isLn s x := ⟨x, h⟩
  unfold lnOf
  rw [dif_pos e]
  have g := Classical.choose_spec e
  rw [ln_inj g.1 h.1 (g.2.symm.trans h.2)]
theorem lnOf_none {s : List UInt8} (h : ∀ x, ¬ isLn s x) : lnOf s = none := dif_neg (fun ⟨x, hx⟩ => h x hx)
noncomputable def e10 (s : List UInt8) : Option Stp := if s.getLast? = some 10 then lnOf s.dropLast else none
theorem e10_cat (s : List UInt8) : e10 (s ++ [10]) = lnOf s := by
  unfold e10
  rw [if_pos (by simp), List.dropLast_concat]
theorem e10_none {s : List UInt8} (h : ∀ x, stpP x → s ≠ ln x ++ [10]) : e10 s = none := by
  unfold e10
  split
  · rename_i hl
    refine lnOf_none (fun x hx => h x hx.1 ?_)
    rw [← hx.2]
    rcases List.eq_nil_or_concat s with rfl | ⟨t, a, rfl⟩
    · simp at hl
    · simp only [List.concat_eq_append, List.getLast?_append, List.getLast?_singleton, Option.some_or, Option.some.injEq] at hl
      rw [hl, List.concat_eq_append, List.dropLast_concat]
  · rfl
noncomputable def pf : List (List UInt8) → List Stp → List Stp × Int
  | [], F => (F, 0)
  | s :: r, F => match e10 s with
    | some x => if flowP (F ++ [x]) then pf r (F ++ [x]) else ([], ((F.length + 1 : Nat) : Int))
    | none => ([], ((F.length + 1 : Nat) : Int))
noncomputable def pfi : List (List UInt8) → Bool → List Stp → List Stp × Int
  | [], _, F => (F, 0)
  | s :: r, w, F => match lnOf s with
    | some x => if flowP (F ++ [x]) ∧ (r = [] → w = true) then pfi r w (F ++ [x]) else ([], ((F.length + 1 : Nat) : Int))
    | none => ([], ((F.length + 1 : Nat) : Int))
theorem lin_nil : ∀ (r cur : List UInt8), (lin cur r).1 = [] → (lin cur r).2 = true
  | [], cur, h => by
    unfold lin at h ⊢
    by_cases hc : cur = []
    · rw [if_pos hc]
    · rw [if_neg hc] at h; simp at h
  | c :: r, cur, h => by
    unfold lin at h ⊢
    by_cases hc : c = 10
    · rw [if_pos hc] at h; simp at h
    · rw [if_neg hc] at h ⊢; exact lin_nil r _ h
theorem pfi_pf : ∀ (r cur : List UInt8) (F : List Stp), (∀ c ∈ cur, c ≠ 10) → pfi (lin cur r).1 (lin cur r).2 F = pf (lns cur r) F
  | [], cur, F, h => by
    unfold lin lns
    by_cases hc : cur = []
    · rw [if_pos hc, if_pos hc]; rfl
    · rw [if_neg hc, if_neg hc]
      have e : e10 cur = none := by
        unfold e10
        rw [if_neg (fun g => h 10 (List.mem_of_getLast? g) rfl)]
      show pfi [cur] false F = pf [cur] F
      unfold pfi pf
      rw [e]
      cases lnOf cur with
      | none => rfl
      | some x => exact if_neg (fun g => by cases g.2 rfl)
  | c :: r, cur, F, h => by
    unfold lin lns
    by_cases hc : c = 10
    · rw [if_pos hc, if_pos hc]
      show pfi (cur :: (lin [] r).1) (lin [] r).2 F = pf ((cur ++ [10]) :: lns [] r) F
      unfold pfi pf
      rw [e10_cat]
      cases lnOf cur with
      | none => rfl
      | some x =>
        show (if flowP (F ++ [x]) ∧ ((lin [] r).1 = [] → (lin [] r).2 = true) then pfi (lin [] r).1 (lin [] r).2 (F ++ [x]) else _) = if flowP (F ++ [x]) then pf (lns [] r) (F ++ [x]) else _
        by_cases hf : flowP (F ++ [x])
        · rw [if_pos ⟨hf, lin_nil r []⟩, if_pos hf]
          exact pfi_pf r [] (F ++ [x]) (by simp)
        · rw [if_neg (fun g => hf g.1), if_neg hf]
    · rw [if_neg hc, if_neg hc]
      refine pfi_pf r (cur ++ [c]) F (fun x hx => ?_)
      rcases List.mem_append.1 hx with hx | hx
      · exact h x hx
      · rw [List.mem_singleton.1 hx]; exact hc
theorem rd_mid (pre r : List (List UInt8)) (s : List UInt8) : rdOf ByteArray.empty ((pre ++ s :: r).map B) ((pre.length : Nat) : Int) = B s := by
  rw [nm_rd]
  unfold nm
  rw [List.getD_eq_getElem?_getD, List.map_append, List.map_cons, List.getElem?_append_right (by simp)]
  simp
theorem w_suc (n : Nat) (h : n ≤ 4000) : wrap64 ((n : Int) + 1) = ((n + 1 : Nat) : Int) := by rw [wrap_id (by omega) (by omega)]; omega
def szF (F : List Stp) : Prop := ∀ x ∈ F, ∀ y ∈ x.f1, y.size ≤ 4000
theorem flow_last {F : List Stp} {x : Stp} (h : flowP (F ++ [x])) : stpP x := by
  have := h.2 F.length (by simp)
  rw [st_app2] at this
  exact this.1
theorem spec_j4 (F : List Stp) (hF : F.length ≤ 4000) (hz : szF F) (ls : List ByteArray) (n : Nat) (hn : n ≤ 4000) (l : List UInt8) (o : Int) (rs : List ByteArray) (hrs : ∀ y ∈ rs, y.size ≤ 4000) (r : List Stp × Int)
    (hgood : flowP (F ++ [(⟨o, rs⟩ : Stp)]) → l = ln ⟨o, rs⟩ ++ [10] → Ev (fun k => spec_ParseFlow.l0 k (F ++ [(⟨o, rs⟩ : Stp)]) ls ((n + 1 : Nat) : Int)) r)
    (hbad : ¬ (flowP (F ++ [(⟨o, rs⟩ : Stp)]) ∧ l = ln ⟨o, rs⟩ ++ [10]) → r = ([], ((n + 1 : Nat) : Int))) :
    Ev (fun k => spec_ParseFlow.j4 k F ls (n : Int) (B l) o rs) r := by
  refine Ev.step (fun _ => rfl) ?_
  simp only [spec_ParseFlow.j4]
  rw [w_suc n hn]
  refine ev_bind0 rfl (ev_pos (by rw [List.length_nil]; omega) (ev_bind0 rfl (ev_bind0 rfl (ev_pos (by rw [List.nil_append, List.length_singleton]; omega) (ev_bind0 rfl ?_)))))
  rw [List.nil_append]
  refine ev_bind (specOk _ (fun x hx y hy => ?_)) ?_
  · rcases List.mem_append.1 hx with hx | hx
    · have := hz x hx y hy; omega
    · rw [List.mem_singleton.1 hx] at hy
      have := hrs y hy
      omega
  by_cases h : flowP (F ++ [(⟨o, rs⟩ : Stp)])
  · refine ev_pos (decide_eq_true h) ?_
    have hx := flow_last h
    have h0 : 0 ≤ o ∧ o ≤ 100000000000 := hx.1
    have ho : ((o.toNat : Nat) : Int) = o := by omega
    have hs := specStep o.toNat rs (by rw [ho]; exact hx)
    rw [ho] at hs
    refine ev_bind hs ?_
    rw [B_list, B_list, show lineOf (mon o.toNat) rs = ln ⟨o, rs⟩ from by unfold ln; rw [smo_mon h0]]
    by_cases g : l = ln ⟨o, rs⟩ ++ [10]
    · exact ev_pos g.symm (hgood h g)
    · exact ev_neg (fun g' => g g'.symm) (ev_eq (ev_some _) (hbad (fun q => g q.2)).symm)
  · exact ev_neg (by rw [decide_eq_true_eq]; exact h) (ev_eq (ev_some _) (hbad (fun q => h q.1)).symm)
theorem specRoll : ∀ (r pre : List (List UInt8)) (F : List Stp), (∀ s ∈ r, s.length ≤ 2000) → pre.length + r.length ≤ 4000 → F.length = pre.length → szF F →
    Ev (fun k => spec_ParseFlow.l0 k F ((pre ++ r).map B) ((F.length : Nat) : Int)) (pf r F)
  | [], pre, F, _, hl, hF, hz => by
    refine Ev.step (fun _ => rfl) ?_
    simp only [spec_ParseFlow.l0]
    refine ev_neg (by rw [List.length_map, List.append_nil]; omega) (ev_some _)
  | s :: r, pre, F, hs, hl, hF, hz => by
    rw [List.length_cons] at hl
    refine Ev.step (fun _ => rfl) ?_
    simp only [spec_ParseFlow.l0]
    refine ev_pos (by rw [List.length_map, List.length_append, List.length_cons]; omega) (ev_pos (by omega) ?_)
    rw [hF, rd_mid, ← hF]
    obtain ⟨o, rs, k1, k2, k3⟩ := spec_xs F ((pre ++ s :: r).map B) ((F.length : Nat) : Int) s (hs s (by simp))
    refine k3 _ (spec_j4 F (by omega) hz _ F.length (by omega) s o rs k1 _ (fun g1 g2 => ?_) (fun g => ?_))
    · have hx := flow_last g1
      have e : pf (s :: r) F = pf r (F ++ [(⟨o, rs⟩ : Stp)]) := by
        conv => lhs; unfold pf
        rw [g2, e10_cat, lnOf_some ⟨hx, rfl⟩]
        exact if_pos g1
      rw [e]
      have h := specRoll r (pre ++ [s]) (F ++ [(⟨o, rs⟩ : Stp)]) (fun t ht => hs t (List.mem_cons_of_mem _ ht)) (by rw [List.length_append, List.length_singleton]; omega) (by rw [List.length_append, List.length_append, hF]; rfl) (fun x hx y hy => by
        rcases List.mem_append.1 hx with hx | hx
        · exact hz x hx y hy
        · rw [List.mem_singleton.1 hx] at hy; exact k1 y hy)
      rw [List.append_assoc, List.length_append, List.length_singleton] at h
      exact h
    · show pf (s :: r) F = _
      conv => lhs; unfold pf
      by_cases hx : ∃ x, stpP x ∧ s = ln x ++ [10]
      · obtain ⟨x, hx, e⟩ := hx
        obtain ⟨e1, e2⟩ := k2 x hx e
        have e3 : (⟨o, rs⟩ : Stp) = x := by rw [e1, e2]
        rw [e3] at g
        have e4 : e10 s = some x := by rw [e, e10_cat]; exact lnOf_some ⟨hx, rfl⟩
        rw [e4]
        exact if_neg (fun q => g ⟨q, e⟩)
      · rw [e10_none (fun x h1 h2 => hx ⟨x, h1, h2⟩)]
theorem flow_iff {F : List Stp} {x : Stp} (h : flowP F) (hx : stpP x) : flowP (F ++ [x]) ↔ F.length < 20 ∧ (0 < F.length → (st F (F.length - 1)).f0 < x.f0) := by
  constructor
  · intro g
    have g1 := g.1
    rw [List.length_append, List.length_singleton] at g1
    refine ⟨by omega, fun h0 => ?_⟩
    have g2 := (g.2 F.length (by simp)).2 h0
    rw [st_app2, st_app1 (by omega)] at g2
    exact g2
  · exact fun g => flow_snoc h g.1 hx g.2
theorem impl_in (F : List Stp) (hf : flowP F) (x : Stp) (hx : stpP x) (ls : List ByteArray) (w : Bool) (N : Int) (R : List Stp × Int)
    (hgood : flowP (F ++ [x]) → Ev (fun k => impl_ParseFlow.l0 k ls w (F ++ [x]) ls N ((F.length + 1 : Nat) : Int)) R) (hbad : ¬ flowP (F ++ [x]) → R = ([], ((F.length + 1 : Nat) : Int))) :
    Ev (fun k => (if ((F.length : Nat) : Int) > 0 then (if 0 ≤ (wrap64 (((F.length : Nat) : Int) - 1)) then (if (wrap64 (((F.length : Nat) : Int) - 1)) < (F.length : Int) then (if ((rd_T119 F (wrap64 (((F.length : Nat) : Int) - 1))).f0) ≥ x.f0 then (some (([] : List (Stp)), wrap64 (((F.length : Nat) : Int) + 1))) else (if ((F.length : Nat) : Int) = 20 then (some (([] : List (Stp)), wrap64 (((F.length : Nat) : Int) + 1))) else (if F.length < 4398046511104 then (impl_ParseFlow.l0 k ls w (F ++ [(⟨x.f0, x.f1⟩ : Stp)]) ls N (wrap64 (((F.length : Nat) : Int) + 1))) else (none)))) else (none)) else (none)) else (if ((F.length : Nat) : Int) = 20 then (some (([] : List (Stp)), wrap64 (((F.length : Nat) : Int) + 1))) else (if F.length < 4398046511104 then (impl_ParseFlow.l0 k ls w (F ++ [(⟨x.f0, x.f1⟩ : Stp)]) ls N (wrap64 (((F.length : Nat) : Int) + 1))) else (none))))) R := by
  have h20 := hf.1
  have hi := flow_iff hf hx
  rw [w_suc F.length (by omega)]
  have last : (0 < F.length → (st F (F.length - 1)).f0 < x.f0) → Ev (fun k => (if ((F.length : Nat) : Int) = 20 then (some (([] : List (Stp)), ((F.length + 1 : Nat) : Int))) else (if F.length < 4398046511104 then (impl_ParseFlow.l0 k ls w (F ++ [(⟨x.f0, x.f1⟩ : Stp)]) ls N ((F.length + 1 : Nat) : Int)) else (none)))) R := by
    intro hl
    by_cases g : F.length = 20
    · refine ev_pos (by omega) (ev_eq (ev_some _) ?_)
      rw [hbad (fun q => by have := (hi.1 q).1; omega)]
    · exact ev_neg (by omega) (ev_pos (by omega) (hgood (hi.2 ⟨by omega, hl⟩)))
  by_cases h0 : 0 < F.length
  · have hw : wrap64 (((F.length : Nat) : Int) - 1) = ((F.length - 1 : Nat) : Int) := by rw [wrap_id (by omega) (by omega)]; omega
    rw [hw]
    refine ev_pos (by omega) (ev_pos (by omega) (ev_pos (by omega) ?_))
    rw [st_rd]
    by_cases g : (st F (F.length - 1)).f0 ≥ x.f0
    · refine ev_pos g (ev_eq (ev_some _) ?_)
      rw [hbad (fun q => by have := (hi.1 q).2 h0; omega)]
    · exact ev_neg g (last (fun _ => by omega))
  · exact ev_neg (by omega) (last (fun q => absurd q h0))
theorem implRoll (w : Bool) : ∀ (r pre : List (List UInt8)) (F : List Stp), (∀ s ∈ r, s.length ≤ 2000) → pre.length + r.length ≤ 4000 → F.length = pre.length → flowP F →
    Ev (fun k => impl_ParseFlow.l0 k ((pre ++ r).map B) w F ((pre ++ r).map B) (((pre ++ r).map B).length : Int) ((F.length : Nat) : Int)) (pfi r w F)
  | [], pre, F, _, hl, hF, hf => by
    refine Ev.step (fun _ => rfl) ?_
    simp only [impl_ParseFlow.l0]
    refine ev_neg (by rw [List.length_map, List.append_nil]; omega) (ev_some _)
  | s :: r, pre, F, hs, hl, hF, hf => by
    rw [List.length_cons] at hl
    have hlen : ((pre ++ s :: r).map B).length = F.length + (r.length + 1) := by rw [List.length_map, List.length_append, List.length_cons, hF]
    refine Ev.step (fun _ => rfl) ?_
    simp only [impl_ParseFlow.l0]
    refine ev_pos (by rw [hlen]; omega) (ev_pos (by omega) (ev_pos (by rw [hlen]; omega) ?_))
    rw [show rdOf ByteArray.empty ((pre ++ s :: r).map B) ((F.length : Nat) : Int) = B s from by rw [hF]; exact rd_mid pre r s]
    rcases implLine s (hs s (by simp)) with ⟨x, hx, he⟩ | ⟨hno, v, he, hv⟩
    · refine ev_bind he (ev_pos rfl ?_)
      have go : flowP (F ++ [x]) → Ev (fun k => impl_ParseFlow.l0 k ((pre ++ s :: r).map B) w (F ++ [x]) ((pre ++ s :: r).map B) (((pre ++ s :: r).map B).length : Int) ((F.length + 1 : Nat) : Int)) (pfi r w (F ++ [x])) := by
        intro g
        have h := implRoll w r (pre ++ [s]) (F ++ [x]) (fun t ht => hs t (List.mem_cons_of_mem _ ht)) (by rw [List.length_append, List.length_singleton]; omega) (by rw [List.length_append, List.length_append, hF]; rfl) g
        rw [List.append_assoc, show (F ++ [x]).length = F.length + 1 from by simp] at h
        exact h
      have hp : pfi (s :: r) w F = if flowP (F ++ [x]) ∧ (r = [] → w = true) then pfi r w (F ++ [x]) else ([], ((F.length + 1 : Nat) : Int)) := by
        conv => lhs; unfold pfi
        rw [lnOf_some hx]
      rw [hp]
      by_cases hr : r = []
      · refine ev_pos (by rw [w_suc F.length (by omega), hlen, hr]; rfl) ?_
        by_cases hw : w = true
        · refine ev_pos hw (impl_in F hf x hx.1 _ w _ _ (fun g => ?_) (fun g => ?_))
          · rw [if_pos ⟨g, fun _ => hw⟩]; exact go g
          · rw [if_neg (fun q => g q.1)]
        · refine ev_neg hw (ev_eq (ev_some _) ?_)
          rw [if_neg (fun q => hw (q.2 hr)), w_suc F.length (by omega)]
      · have : 1 ≤ r.length := by
          cases r with
          | nil => exact absurd rfl hr
          | cons a b => simp
        refine ev_neg (by rw [w_suc F.length (by omega), hlen]; omega) (impl_in F hf x hx.1 _ w _ _ (fun g => ?_) (fun g => ?_))
        · rw [if_pos ⟨g, fun q => absurd q hr⟩]; exact go g
        · rw [if_neg (fun q => g q.1)]
    · refine ev_bind he (ev_neg hv (ev_eq (ev_some _) ?_))
      conv => rhs; unfold pfi
      rw [lnOf_none hno, w_suc F.length (by omega)]
noncomputable def PF (l : List UInt8) : List Stp × Int := if l.length > 2000 then ([], 1) else pf (lns [] l) []
theorem flow_nil : flowP [] := ⟨by simp, fun i hi => by simp at hi⟩
theorem specParse (l : List UInt8) : Ev (fun k => spec_ParseFlow.f k (B l)) (PF l) := by
  unfold spec_ParseFlow.f PF
  refine ev_bind0 rfl ?_
  by_cases h : l.length > 2000
  · rw [if_pos h]
    exact ev_pos (by rw [B_size]; omega) (ev_some _)
  · rw [if_neg h]
    refine ev_neg (by rw [B_size]; omega) (ev_bind (specLines l (by omega)) ?_)
    have hb := lns_bd l []
    rw [List.length_nil, Nat.zero_add] at hb
    exact specRoll (lns [] l) [] [] (fun s hs => by have := (hb.2 s hs).2; omega) (by rw [List.length_nil]; omega) rfl (fun x hx => by simp at hx)
theorem implParse (l : List UInt8) : Ev (fun k => impl_ParseFlow.f k (B l)) (PF l) := by
  unfold impl_ParseFlow.f PF
  by_cases h : l.length > 2000
  · rw [if_pos h]
    exact ev_pos (by rw [B_size]; omega) (ev_some _)
  · rw [if_neg h]
    refine ev_neg (by rw [B_size]; omega) (ev_bind (implLines l (by omega)) ?_)
    have hb := lin_bd l []
    rw [List.length_nil, Nat.zero_add] at hb
    rw [← pfi_pf l [] [] (by simp)]
    exact implRoll (lin [] l).2 (lin [] l).1 [] [] (fun s hs => by have := hb.2 s hs; omega) (by rw [List.length_nil]; omega) rfl flow_nil
end Go.Proofs.Ytjnmfadnkbflfaa.PFnExactParseFlow
