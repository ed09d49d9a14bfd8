import Derived.Test.YtjnmfadnkbflfaaSBytesFnExactShowFlow
import Derived.Test.YtjnmfadnkbflfaaSIterWords
set_option linter.unusedVariables false
set_option linter.unusedSimpArgs false
namespace Go.Proofs.Ytjnmfadnkbflfaa.PFnExactShowFlow
open Go Go.RowKit Go.Proofs.YtjnmfadnkbflfaaW.PrintWords Go.Proofs.YtjnmfadnkbflfaaW.PrintLast Go.Proofs.Ytjnmfadnkbflfaa.MapWords Go.Proofs.Ytjnmfadnkbflfaa.IterWords Go.Proofs.Ytjnmfadnkbflfaa.EvWords
open Classical
def EvP {α : Type} (g : Nat → Option α) (P : α → Prop) : Prop := ∃ v, Ev g v ∧ P v
theorem evp_step {α : Type} {g f : Nat → Option α} {P : α → Prop} (h : ∀ k, g (k + 1) = f k) (k : EvP f P) : EvP g P := by
  obtain ⟨v, h1, h2⟩ := k
  exact ⟨v, Ev.step h h1, h2⟩
theorem evp_pos {α : Type} {c : Prop} [Decidable c] {f g : Nat → Option α} {P : α → Prop} (h : c) (k : EvP f P) : EvP (fun n => if c then f n else g n) P := by
  obtain ⟨v, h1, h2⟩ := k
  exact ⟨v, ev_pos h h1, h2⟩
theorem evp_neg {α : Type} {c : Prop} [Decidable c] {f g : Nat → Option α} {P : α → Prop} (h : ¬ c) (k : EvP g P) : EvP (fun n => if c then f n else g n) P := by
  obtain ⟨v, h1, h2⟩ := k
  exact ⟨v, ev_neg h h1, h2⟩
theorem evp_ite {α : Type} {c : Prop} [Decidable c] {f g : Nat → Option α} {P : α → Prop} (h : c → EvP f P) (k : ¬ c → EvP g P) : EvP (fun n => if c then f n else g n) P := by
  by_cases hc : c
  · exact evp_pos hc (h hc)
  · exact evp_neg hc (k hc)
theorem evp_bind {α β : Type} {g : Nat → Option α} {f : Nat → α → Option β} {Q : α → Prop} {P : β → Prop} (h : EvP g Q) (k : ∀ a, Q a → EvP (fun n => f n a) P) : EvP (fun n => (g n).bind (f n)) P := by
  obtain ⟨a, h1, h2⟩ := h
  obtain ⟨v, h3, h4⟩ := k a h2
  exact ⟨v, ev_bind h1 h3, h4⟩
theorem evp_bind0 {α β : Type} {g : Option α} {f : Nat → α → Option β} {a : α} {P : β → Prop} (h : g = some a) (k : EvP (fun n => f n a) P) : EvP (fun n => g.bind (f n)) P := by
  obtain ⟨v, h3, h4⟩ := k
  exact ⟨v, ev_bind0 h h3, h4⟩
theorem evp_some {α : Type} {r : α} {P : α → Prop} (h : P r) : EvP (fun _ => some r) P := ⟨r, ev_some _, h⟩
theorem evp_ev {α : Type} {g : Nat → Option α} {v : α} (h : Ev g v) : EvP g (fun x => x = v) := ⟨v, h, rfl⟩
theorem evp_mono {α : Type} {g : Nat → Option α} {P Q : α → Prop} (h : EvP g P) (k : ∀ v, P v → Q v) : EvP g Q := by
  obtain ⟨v, h1, h2⟩ := h
  exact ⟨v, h1, k v h2⟩
theorem bt_mid (a r : List UInt8) (c : UInt8) : bt (B (a ++ c :: r)) ((a.length : Nat) : Int) = (c.toNat : Int) := by
  rw [B_bt _ _ (by simp)]
  simp
theorem u8_eq (c : UInt8) (n : Nat) (h : n < 256) : (c.toNat : Int) = (n : Int) ↔ c = UInt8.ofNat n := by
  constructor
  · intro e
    apply UInt8.toNat_inj.1
    rw [UInt8.toNat_ofNat']
    omega
  · intro e
    rw [e, UInt8.toNat_ofNat']
    omega
def lin : List UInt8 → List UInt8 → List (List UInt8) × Bool
  | cur, [] => if cur = [] then ([], true) else ([cur], false)
  | cur, c :: r => if c = 10 then (cur :: (lin [] r).1, (lin [] r).2) else lin (cur ++ [c]) r
theorem lin_bd : ∀ (r cur : List UInt8), (lin cur r).1.length ≤ cur.length + r.length ∧ ∀ x ∈ (lin cur r).1, x.length ≤ cur.length + r.length := by
  intro r
  induction r with
  | nil =>
    intro cur
    unfold lin
    by_cases h : cur = []
    · rw [if_pos h]; simp
    · rw [if_neg h]
      have : 1 ≤ cur.length := by cases cur with | nil => exact absurd rfl h | cons a b => simp
      simp only [List.length_cons, List.length_nil, List.mem_singleton]
      exact ⟨by omega, fun x hx => by rw [hx]; omega⟩
  | cons c r ih =>
    intro cur
    unfold lin
    by_cases h : c = 10
    · rw [if_pos h]
      obtain ⟨h1, h2⟩ := ih []
      simp only [List.length_nil] at h1 h2
      refine ⟨by simp only [List.length_cons]; omega, fun x hx => ?_⟩
      rcases List.mem_cons.1 hx with rfl | hx
      · omega
      · have := h2 x hx; simp only [List.length_cons]; omega
    · rw [if_neg h]
      obtain ⟨h1, h2⟩ := ih (cur ++ [c])
      simp only [List.length_append, List.length_cons, List.length_nil] at h1 h2 ⊢
      exact ⟨by omega, fun x hx => by have := h2 x hx; omega⟩
theorem lin_line : ∀ (x cur r : List UInt8), (∀ c ∈ x, c ≠ 10) → lin cur (x ++ 10 :: r) = ((cur ++ x) :: (lin [] r).1, (lin [] r).2) := by
  intro x
  induction x with
  | nil => intro cur r _; rw [List.nil_append, lin, if_pos rfl, List.append_nil]
  | cons c x ih =>
    intro cur r h
    rw [List.cons_append, lin, if_neg (h c (by simp)), ih _ _ (fun d hd => h d (by simp [hd])), List.append_assoc]
    rfl
theorem lines_loop (l : List UInt8) (hl : l.length ≤ 4000) : ∀ (r pre cur : List UInt8) (acc : List (List UInt8)), l = pre ++ cur ++ r → acc.length ≤ pre.length →
    Ev (fun k => impl_linesOf.l0 k (B l) (acc.map B) ((pre.length : Nat) : Int) (((pre ++ cur).length : Nat) : Int)) ((acc ++ (lin cur r).1).map B, (lin cur r).2) := by
  intro r
  induction r with
  | nil =>
    intro pre cur acc he ha
    have hz : l.length = (pre ++ cur).length := by rw [he]; simp only [List.length_append, List.length_cons, List.length_nil]; try omega
    have hpl : (pre ++ cur).length = pre.length + cur.length := List.length_append
    refine Ev.step (fun _ => rfl) ?_
    simp only [impl_linesOf.l0]
    refine ev_neg (by rw [B_size]; omega) ?_
    unfold lin
    by_cases hc : cur = []
    · subst hc
      rw [if_pos rfl, List.append_nil]
      simp only [List.length_nil] at hpl
      exact ev_neg (by rw [B_size]; omega) (ev_some _)
    · rw [if_neg hc]
      have : 1 ≤ cur.length := by cases cur with | nil => exact absurd rfl hc | cons a b => simp
      refine ev_pos (by rw [B_size]; omega) (ev_pos (by omega) (ev_pos (by rw [B_size]; omega) (ev_pos (by rw [List.length_map]; omega) (ev_eq (ev_some _) ?_))))
      rw [B_ext, B_size, Int.toNat_natCast, he]
      simp
  | cons c r ih =>
    intro pre cur acc he ha
    have hpl : (pre ++ cur).length = pre.length + cur.length := List.length_append
    have hz : l.length = pre.length + cur.length + (r.length + 1) := by rw [he]; simp only [List.length_append, List.length_cons, List.length_nil]; try omega
    have hb : bt (B l) (((pre ++ cur).length : Nat) : Int) = (c.toNat : Int) := by rw [he]; exact bt_mid _ _ _
    have hw : wrap64 ((((pre ++ cur).length : Nat) : Int) + 1) = (((pre ++ cur).length + 1 : Nat) : Int) := by rw [wrap_id (by omega) (by omega)]; omega
    refine Ev.step (fun _ => rfl) ?_
    simp only [impl_linesOf.l0]
    refine ev_pos (by rw [B_size]; omega) (ev_pos (by omega) ?_)
    rw [hb, hw]
    unfold lin
    by_cases hc : c = 10
    · rw [if_pos hc]
      refine ev_pos ((u8_eq c 10 (by omega)).2 hc) (ev_pos (by omega) (ev_pos (by omega) (ev_pos (by rw [B_size]; omega) (ev_pos (by rw [List.length_map]; omega) ?_))))
      have e1 : (B l).extract (((pre.length : Nat) : Int)).toNat (((pre ++ cur).length : Nat) : Int).toNat = B cur := by
        rw [B_ext, Int.toNat_natCast, Int.toNat_natCast, he, hpl]
        simp
      have h2 := ih (pre ++ cur ++ [c]) [] (acc ++ [cur]) (by rw [he]; simp) (by simp only [List.length_append, List.length_singleton]; omega)
      have e2 : (pre ++ cur ++ [c] ++ []).length = (pre ++ cur).length + 1 := by simp only [List.length_append, List.length_cons, List.length_nil]; try omega
      have e3 : (pre ++ cur ++ [c]).length = (pre ++ cur).length + 1 := by simp only [List.length_append, List.length_cons, List.length_nil]; try omega
      rw [e2, e3] at h2
      rw [e1]
      have e4 : acc.map B ++ [B cur] = (acc ++ [cur]).map B := by simp
      rw [e4]
      refine ev_eq h2 ?_
      simp
    · rw [if_neg hc]
      refine ev_neg (fun h => hc ((u8_eq c 10 (by omega)).1 h)) ?_
      have h2 := ih pre (cur ++ [c]) acc (by rw [he]; simp) ha
      have e2 : (pre ++ (cur ++ [c])).length = (pre ++ cur).length + 1 := by simp only [List.length_append, List.length_cons, List.length_nil]; try omega
      rw [e2] at h2
      exact h2
theorem implLines (l : List UInt8) (hl : l.length ≤ 4000) : Ev (fun k => impl_linesOf.f k (B l)) ((lin [] l).1.map B, (lin [] l).2) := by
  have := lines_loop l hl l [] [] [] rfl (by simp)
  simpa [impl_linesOf.f] using this
theorem wid (s : ByteArray) (p : Nat) (h : p < s.size) : 1 ≤ (Utf8.decode s p).2 := by
  by_cases ha : (s[p]'h).toNat < 128
  · rw [decode_ascii s p h ha]; exact Nat.le_refl _
  · exact (decode_high s p h (by omega)).2
theorem itp_n (x : Int) : itp x = ((itn x : Nat) : Int) := rfl
theorem itn_n (p : Nat) : itn ((p : Nat) : Int) = p := Int.toNat_natCast p
theorem itw_n (s : ByteArray) (x : Int) : itw s x = ((itn x + (Utf8.decode s (itn x)).2 : Nat) : Int) := rfl
section
variable {s m : ByteArray} {acc : List ByteArray} {f : Nat} {x : Int} {R : List ByteArray}
theorem c_end (hs : s.size ≤ 4000) (h : s.size ≤ itn x) (hf : f ≤ s.size) (ha : acc.length ≤ 4000) : Ev (fun k => impl_cutAt.l0 k s m acc (f : Int) (f : Int) x s) (acc ++ [s.extract f s.size]) := by
  refine Ev.step (fun _ => rfl) ?_
  simp only [impl_cutAt.l0]
  refine ev_neg (by rw [itp_n]; omega) (ev_pos (by omega) (ev_pos (by omega) (ev_pos (by omega) (ev_eq (ev_some _) ?_))))
  rw [Int.toNat_natCast]
theorem c_skip (h : itn x < s.size) (hf : itn x < f) (h2 : Ev (fun k => impl_cutAt.l0 k s m acc (f : Int) (f : Int) (itw s x) s) R) : Ev (fun k => impl_cutAt.l0 k s m acc (f : Int) (f : Int) x s) R := by
  refine Ev.step (fun _ => rfl) ?_
  simp only [impl_cutAt.l0]
  refine ev_pos (by rw [itp_n]; omega) (ev_pos (by rw [itp_n]; omega) ?_)
  refine Ev.step (fun _ => rfl) ?_
  simp only [impl_cutAt.j1]
  exact ev_pos trivial h2
theorem c_short (hs : s.size ≤ 4000) (h : itn x < s.size) (hf : f ≤ itn x) (hm : s.size < itn x + m.size) (h2 : Ev (fun k => impl_cutAt.l0 k s m acc (f : Int) (f : Int) (itw s x) s) R) : Ev (fun k => impl_cutAt.l0 k s m acc (f : Int) (f : Int) x s) R := by
  have hj : ∀ b : Bool, b = true → Ev (fun k => impl_cutAt.j1 k s m acc (f : Int) (f : Int) (itp x) b (itw s x) s) R := by
    intro b hb
    refine Ev.step (fun _ => rfl) ?_
    simp only [impl_cutAt.j1]
    exact ev_pos hb h2
  refine Ev.step (fun _ => rfl) ?_
  simp only [impl_cutAt.l0]
  refine ev_pos (by rw [itp_n]; omega) (ev_neg (by rw [itp_n]; omega) (hj _ ?_))
  rw [decide_eq_true_eq, itp_n, wrap_id (by omega) (by omega)]
  omega
theorem c_full (hs : s.size ≤ 4000) (hf : f ≤ itn x) (hm : itn x + m.size ≤ s.size) (hm1 : 1 ≤ m.size) (h2 : Ev (fun k => impl_cutAt.j1 k s m acc (f : Int) (f : Int) (itp x) false (itw s x) s) R) : Ev (fun k => impl_cutAt.l0 k s m acc (f : Int) (f : Int) x s) R := by
  have e : decide (wrap64 ((s.size : Int) - itp x) < (m.size : Int)) = false := by
    rw [decide_eq_false_iff_not, itp_n, wrap_id (by omega) (by omega)]
    omega
  refine Ev.step (fun _ => rfl) ?_
  simp only [impl_cutAt.l0]
  refine ev_pos (by rw [itp_n]; omega) (ev_neg (by rw [itp_n]; omega) ?_)
  rw [e]
  exact h2
theorem c_miss (hs : s.size ≤ 4000) (hf : f ≤ itn x) (hm : itn x + m.size ≤ s.size) (hm1 : 1 ≤ m.size) (hne : ¬ (s.extract (itn x) (itn x + m.size)).toList = m.toList) (h2 : Ev (fun k => impl_cutAt.l0 k s m acc (f : Int) (f : Int) (itw s x) s) R) : Ev (fun k => impl_cutAt.l0 k s m acc (f : Int) (f : Int) x s) R := by
  refine c_full hs hf hm hm1 ?_
  have hw2 : wrap64 (((itn x : Nat) : Int) + (m.size : Int)) = ((itn x + m.size : Nat) : Int) := by rw [wrap_id (by omega) (by omega)]; omega
  refine Ev.step (fun _ => rfl) ?_
  simp only [impl_cutAt.j1]
  refine ev_neg (by simp) ?_
  rw [itp_n, hw2]
  refine ev_pos (by omega) (ev_pos (by omega) (ev_pos (by omega) (ev_neg ?_ h2)))
  rw [Int.toNat_natCast, Int.toNat_natCast]
  exact hne
theorem c_hit (hs : s.size ≤ 4000) (hf : f ≤ itn x) (hm : itn x + m.size ≤ s.size) (hm1 : 1 ≤ m.size) (ha : acc.length ≤ 4000) (he : (s.extract (itn x) (itn x + m.size)).toList = m.toList)
    (h2 : Ev (fun k => impl_cutAt.l0 k s m (acc ++ [s.extract f (itn x)]) ((itn x + m.size : Nat) : Int) ((itn x + m.size : Nat) : Int) (itw s x) s) R) : Ev (fun k => impl_cutAt.l0 k s m acc (f : Int) (f : Int) x s) R := by
  refine c_full hs hf hm hm1 ?_
  have hw2 : wrap64 (((itn x : Nat) : Int) + (m.size : Int)) = ((itn x + m.size : Nat) : Int) := by rw [wrap_id (by omega) (by omega)]; omega
  refine Ev.step (fun _ => rfl) ?_
  simp only [impl_cutAt.j1]
  refine ev_neg (by simp) ?_
  rw [itp_n, hw2]
  refine ev_pos (by omega) (ev_pos (by omega) (ev_pos (by omega) (ev_pos ?_ (ev_pos (by omega) (ev_pos (by omega) (ev_pos (by omega) (ev_pos (by omega) ?_)))))))
  · rw [Int.toNat_natCast, Int.toNat_natCast]
    exact he
  · rw [Int.toNat_natCast, Int.toNat_natCast]
    exact h2
end
theorem cut_any (s m : ByteArray) (hs : s.size ≤ 4000) (hm : 1 ≤ m.size ∧ m.size ≤ 10) : ∀ (n : Nat) (acc : List ByteArray) (f : Nat) (x : Int), f ≤ s.size → s.size ≤ itn x + n → acc.length ≤ f → (∀ y ∈ acc, y.size ≤ s.size) →
    EvP (fun k => impl_cutAt.l0 k s m acc (f : Int) (f : Int) x s) (fun r => (1 ≤ r.length ∧ r.length ≤ s.size + 1) ∧ ∀ y ∈ r, y.size ≤ s.size) := by
  have more : ∀ (acc : List ByteArray) (a b : Nat), (∀ y ∈ acc, y.size ≤ s.size) → ∀ y ∈ acc ++ [s.extract a b], y.size ≤ s.size := by
    intro acc a b hy y h
    rcases List.mem_append.1 h with h | h
    · exact hy y h
    · rw [List.mem_singleton.1 h, ByteArray.size_extract]; omega
  have fin : ∀ (acc : List ByteArray) (f : Nat) (x : Int), f ≤ s.size → s.size ≤ itn x → acc.length ≤ f → (∀ y ∈ acc, y.size ≤ s.size) →
      EvP (fun k => impl_cutAt.l0 k s m acc (f : Int) (f : Int) x s) (fun r => (1 ≤ r.length ∧ r.length ≤ s.size + 1) ∧ ∀ y ∈ r, y.size ≤ s.size) := by
    intro acc f x hf hx ha hy
    refine ⟨_, c_end hs hx hf (by omega), ⟨?_, ?_⟩, more acc _ _ hy⟩
    · simp only [List.length_append, List.length_singleton]; omega
    · simp only [List.length_append, List.length_singleton]; omega
  intro n
  induction n with
  | zero => intro acc f x hf hx ha hy; exact fin acc f x hf (by omega) ha hy
  | succ n ih =>
    intro acc f x hf hx ha hy
    by_cases hp : itn x < s.size
    · have hw := wid s (itn x) hp
      have hx2 : s.size ≤ itn (itw s x) + n := by rw [itn_itw]; omega
      by_cases h1 : itn x < f
      · obtain ⟨r, h2, h3⟩ := ih acc f (itw s x) hf hx2 ha hy
        exact ⟨r, c_skip hp h1 h2, h3⟩
      · by_cases h4 : s.size < itn x + m.size
        · obtain ⟨r, h2, h3⟩ := ih acc f (itw s x) hf hx2 ha hy
          exact ⟨r, c_short hs hp (by omega) h4 h2, h3⟩
        · by_cases h5 : (s.extract (itn x) (itn x + m.size)).toList = m.toList
          · obtain ⟨r, h2, h3⟩ := ih (acc ++ [s.extract f (itn x)]) (itn x + m.size) (itw s x) (by omega) hx2 (by simp only [List.length_append, List.length_singleton]; omega) (more acc _ _ hy)
            exact ⟨r, c_hit hs (by omega) (by omega) hm.1 (by omega) h5 h2, h3⟩
          · obtain ⟨r, h2, h3⟩ := ih acc f (itw s x) hf hx2 ha hy
            exact ⟨r, c_miss hs (by omega) (by omega) hm.1 h5 h2, h3⟩
    · exact fin acc f x hf (by omega) ha hy
theorem cutAny (s m : ByteArray) (hs : s.size ≤ 4000) (hm : 1 ≤ m.size ∧ m.size ≤ 10) : EvP (fun k => impl_cutAt.f k s m) (fun r => (1 ≤ r.length ∧ r.length ≤ s.size + 1) ∧ ∀ y ∈ r, y.size ≤ s.size) :=
  cut_any s m hs hm s.size [] 0 0 (by omega) (by show s.size ≤ itn 0 + s.size; omega) (by simp) (by simp)
def tl (c1 c2 : UInt8) : List (List UInt8) → List UInt8
  | [] => []
  | p :: ps => c1 :: c2 :: (p ++ tl c1 c2 ps)
theorem itw1 (l : List UInt8) (a r : List UInt8) (c : UInt8) (he : l = a ++ c :: r) (hc : c.toNat < 128) : itw (B l) ((a.length : Nat) : Int) = ((a.length + 1 : Nat) : Int) := by
  have hlt : a.length < (B l).size := by rw [B_size, he]; simp
  have hg : ((B l)[a.length]'hlt) = c := by
    subst he
    have h1 := bt_at (B (a ++ c :: r)) ((a.length : Nat) : Int) (by rw [Int.toNat_natCast]; exact hlt)
    rw [bt_mid] at h1
    apply UInt8.toNat_inj.1
    exact Int.ofNat.inj h1
  rw [itw_n, itn_n, decode_ascii (B l) a.length hlt (by rw [hg]; exact hc)]
theorem at_c (l q r : List UInt8) (c : UInt8) (he : l = q ++ c :: r) : itn ((q.length : Nat) : Int) < (B l).size := by
  rw [itn_n, B_size, he]
  simp
theorem cut_go (l : List UInt8) (hl : l.length ≤ 4000) (c1 c2 : UInt8) (q r : List UInt8) (c : UInt8) (acc : List ByteArray) (f : Nat) (R : List ByteArray) (he : l = q ++ c :: r) (hc : c.toNat < 128) (hne : c ≠ c1) (hf : f ≤ q.length)
    (h2 : Ev (fun k => impl_cutAt.l0 k (B l) (B [c1, c2]) acc (f : Int) (f : Int) ((q.length + 1 : Nat) : Int) (B l)) R) : Ev (fun k => impl_cutAt.l0 k (B l) (B [c1, c2]) acc (f : Int) (f : Int) ((q.length : Nat) : Int) (B l)) R := by
  have e6 := itw1 l q r c he hc
  have hp := at_c l q r c he
  have hne2 : ¬ ((B l).extract (itn ((q.length : Nat) : Int)) (itn ((q.length : Nat) : Int) + (B [c1, c2]).size)).toList = (B [c1, c2]).toList := by
    rw [B_ext, B_list, B_list, B_size, itn_n, he, List.drop_left, Nat.add_sub_cancel_left]
    intro h5
    simp only [List.length_cons, List.length_nil, List.take_succ_cons] at h5
    injection h5 with h6 _
    exact hne h6
  have hs : (B l).size ≤ 4000 := hl
  have hm : 1 ≤ (B [c1, c2]).size := by rw [B_size]; simp
  have hf' : f ≤ itn ((q.length : Nat) : Int) := by rw [itn_n]; exact hf
  rw [← e6] at h2
  generalize B l = s at *
  generalize B [c1, c2] = m at *
  by_cases h4 : s.size < itn ((q.length : Nat) : Int) + m.size
  · exact c_short hs hp hf' h4 h2
  · exact c_miss hs hf' (by omega) hm hne2 h2
theorem cut_skip (l : List UInt8) (m : ByteArray) (q r : List UInt8) (c : UInt8) (acc : List ByteArray) (f : Nat) (R : List ByteArray) (he : l = q ++ c :: r) (hc : c.toNat < 128) (hf : q.length < f)
    (h2 : Ev (fun k => impl_cutAt.l0 k (B l) m acc (f : Int) (f : Int) ((q.length + 1 : Nat) : Int) (B l)) R) : Ev (fun k => impl_cutAt.l0 k (B l) m acc (f : Int) (f : Int) ((q.length : Nat) : Int) (B l)) R := by
  have e6 := itw1 l q r c he hc
  rw [← e6] at h2
  exact c_skip (at_c l q r c he) (by rw [itn_n]; exact hf) h2
theorem cut_hit (l : List UInt8) (hl : l.length ≤ 4000) (c1 c2 : UInt8) (pre cur r : List UInt8) (acc : List ByteArray) (R : List ByteArray) (he : l = (pre ++ cur) ++ c1 :: c2 :: r) (hc1 : c1.toNat < 128) (hc2 : c2.toNat < 128) (ha : acc.length ≤ pre.length)
    (h2 : Ev (fun k => impl_cutAt.l0 k (B l) (B [c1, c2]) (acc ++ [B cur]) (((pre ++ cur).length + 2 : Nat) : Int) (((pre ++ cur).length + 2 : Nat) : Int) (((pre ++ cur).length + 2 : Nat) : Int) (B l)) R) :
    Ev (fun k => impl_cutAt.l0 k (B l) (B [c1, c2]) acc ((pre.length : Nat) : Int) ((pre.length : Nat) : Int) (((pre ++ cur).length : Nat) : Int) (B l)) R := by
  have hpl : (pre ++ cur).length = pre.length + cur.length := List.length_append
  have hz : (pre ++ cur).length + 2 + r.length = l.length := by rw [he]; simp only [List.length_append, List.length_cons]; omega
  have he2 : l = (pre ++ cur ++ [c1]) ++ c2 :: r := by rw [he]; simp
  have e3 : (pre ++ cur ++ [c1]).length = (pre ++ cur).length + 1 := by simp only [List.length_append, List.length_cons, List.length_nil]
  have e1 : (B l).extract pre.length (itn (((pre ++ cur).length : Nat) : Int)) = B cur := by
    rw [itn_n, B_ext, he, hpl]
    simp
  have e4 : ((B l).extract (itn (((pre ++ cur).length : Nat) : Int)) (itn (((pre ++ cur).length : Nat) : Int) + (B [c1, c2]).size)).toList = (B [c1, c2]).toList := by
    rw [B_ext, B_list, B_list, B_size, itn_n, he, List.drop_left, Nat.add_sub_cancel_left]
    simp only [List.length_cons, List.length_nil, List.take_succ_cons, List.take_zero]
  have hs := cut_skip l (B [c1, c2]) (pre ++ cur ++ [c1]) r c2 (acc ++ [B cur]) ((pre ++ cur).length + 2) R he2 hc2 (by omega) (by rw [e3]; exact h2)
  have e6 := itw1 l _ _ c1 he hc1
  rw [e3, ← e6, ← e1] at hs
  refine c_hit hl (by rw [itn_n]; omega) ?_ (by rw [B_size]; simp) (by omega) e4 ?_
  · rw [itn_n, B_size, B_size]; simp only [List.length_cons, List.length_nil]; omega
  · exact hs
theorem cut_fin (l : List UInt8) (hl : l.length ≤ 4000) (m : ByteArray) (pre cur : List UInt8) (acc : List ByteArray) (he : l = pre ++ cur) (ha : acc.length ≤ pre.length) :
    Ev (fun k => impl_cutAt.l0 k (B l) m acc ((pre.length : Nat) : Int) ((pre.length : Nat) : Int) (((pre ++ cur).length : Nat) : Int) (B l)) (acc ++ [B cur]) := by
  have hpl : (pre ++ cur).length = pre.length + cur.length := List.length_append
  have hz : l.length = pre.length + cur.length := by rw [he, hpl]
  refine ev_eq (c_end hl (by rw [itn_n, B_size]; omega) (by rw [B_size]; omega) (by omega)) ?_
  rw [B_ext, B_size, he]
  simp
theorem cut_exact (l : List UInt8) (hl : l.length ≤ 4000) (ha : ∀ c ∈ l, c.toNat < 128) (c1 c2 : UInt8) : ∀ (ps : List (List UInt8)) (r pre cur : List UInt8) (acc : List (List UInt8)), l = pre ++ cur ++ (r ++ tl c1 c2 ps) → (∀ c ∈ r, c ≠ c1) → (∀ p ∈ ps, ∀ c ∈ p, c ≠ c1) → acc.length ≤ pre.length →
    Ev (fun k => impl_cutAt.l0 k (B l) (B [c1, c2]) (acc.map B) ((pre.length : Nat) : Int) ((pre.length : Nat) : Int) (((pre ++ cur).length : Nat) : Int) (B l)) ((acc ++ (cur ++ r) :: ps).map B) := by
  intro ps
  induction ps with
  | nil =>
    intro r
    induction r with
    | nil =>
      intro pre cur acc he _ _ hacc
      refine ev_eq (cut_fin l hl _ pre cur (acc.map B) (by rw [he]; simp [tl]) (by rw [List.length_map]; exact hacc)) ?_
      simp
    | cons c r ih =>
      intro pre cur acc he hr hps hacc
      have he' : l = (pre ++ cur) ++ c :: (r ++ tl c1 c2 []) := by rw [he]; simp
      have h2 := ih pre (cur ++ [c]) acc (by rw [he]; simp) (fun d hd => hr d (by simp [hd])) hps hacc
      have e2 : (pre ++ (cur ++ [c])).length = (pre ++ cur).length + 1 := by rw [← List.append_assoc]; simp only [List.length_append, List.length_cons, List.length_nil]
      have e3 : (cur ++ [c]) ++ r = cur ++ c :: r := by simp
      rw [e2, e3] at h2
      exact cut_go l hl c1 c2 _ _ c _ pre.length _ he' (ha c (by rw [he']; simp)) (hr c (by simp)) (by rw [List.length_append]; omega) h2
  | cons p ps ihp =>
    intro r
    induction r with
    | nil =>
      intro pre cur acc he _ hps hacc
      have he' : l = (pre ++ cur) ++ c1 :: (c2 :: (p ++ tl c1 c2 ps)) := by rw [he]; simp [tl]
      have h2 := ihp p (pre ++ cur ++ [c1, c2]) [] (acc ++ [cur]) (by rw [he']; simp) (hps p (by simp)) (fun q hq => hps q (by simp [hq])) (by simp only [List.length_append, List.length_cons, List.length_nil]; omega)
      have e2 : (pre ++ cur ++ [c1, c2] ++ []).length = (pre ++ cur).length + 2 := by simp only [List.length_append, List.length_cons, List.length_nil]; try omega
      have e3 : (pre ++ cur ++ [c1, c2]).length = (pre ++ cur).length + 2 := by simp only [List.length_append, List.length_cons, List.length_nil]; try omega
      have e4 : (acc ++ [cur]).map B = acc.map B ++ [B cur] := by simp
      rw [e2, e3, e4] at h2
      refine cut_hit l hl c1 c2 pre cur _ (acc.map B) _ he' (ha c1 (by rw [he']; simp)) (ha c2 (by rw [he']; simp)) (by rw [List.length_map]; exact hacc) (ev_eq h2 ?_)
      simp
    | cons c r ih =>
      intro pre cur acc he hr hps hacc
      have he' : l = (pre ++ cur) ++ c :: (r ++ tl c1 c2 (p :: ps)) := by rw [he]; simp
      have h2 := ih pre (cur ++ [c]) acc (by rw [he]; simp) (fun d hd => hr d (by simp [hd])) hps hacc
      have e2 : (pre ++ (cur ++ [c])).length = (pre ++ cur).length + 1 := by rw [← List.append_assoc]; simp only [List.length_append, List.length_cons, List.length_nil]
      have e3 : (cur ++ [c]) ++ r = cur ++ c :: r := by simp
      rw [e2, e3] at h2
      exact cut_go l hl c1 c2 _ _ c _ pre.length _ he' (ha c (by rw [he']; simp)) (hr c (by simp)) (by rw [List.length_append]; omega) h2
theorem cutExact (c1 c2 : UInt8) (x : List UInt8) (ps : List (List UInt8)) (hl : (x ++ tl c1 c2 ps).length ≤ 4000) (ha : ∀ c ∈ x ++ tl c1 c2 ps, c.toNat < 128) (hx : ∀ c ∈ x, c ≠ c1) (hps : ∀ p ∈ ps, ∀ c ∈ p, c ≠ c1) :
    Ev (fun k => impl_cutAt.f k (B (x ++ tl c1 c2 ps)) (B [c1, c2])) ((x :: ps).map B) :=
  cut_exact _ hl ha c1 c2 ps x [] [] [] rfl hx hps (by simp)
end Go.Proofs.Ytjnmfadnkbflfaa.PFnExactShowFlow
