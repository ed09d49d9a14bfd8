import Derived.Test.YtobbemdkipknnaaXWWords
set_option linter.unusedVariables false
set_option linter.unusedSimpArgs false
namespace Go.Proofs.Ytobbemdkipknnaa.EvWords
open Go Go.RowKit Go.Proofs.YtobbemdkipknnaaW.PrintWords
theorem ev_pos {α : Type} {c : Prop} [Decidable c] {f g : Nat → Option α} {r : α} (h : c) (k : Ev f r) : Ev (fun n => if c then f n else g n) r := by
  simpa only [if_pos h] using k
theorem ev_neg {α : Type} {c : Prop} [Decidable c] {f g : Nat → Option α} {r : α} (h : ¬ c) (k : Ev g r) : Ev (fun n => if c then f n else g n) r := by
  simpa only [if_neg h] using k
theorem ev_bind {α β : Type} {g : Nat → Option α} {f : Nat → α → Option β} {a : α} {r : β} (h : Ev g a) (k : Ev (fun n => f n a) r) : Ev (fun n => (g n).bind (f n)) r := Ev.bind h k
theorem ev_bind0 {α β : Type} {g : Option α} {f : Nat → α → Option β} {a : α} {r : β} (h : g = some a) (k : Ev (fun n => f n a) r) : Ev (fun n => g.bind (f n)) r := by
  subst h
  exact k
theorem ev_some {α : Type} (r : α) : Ev (fun _ => some r) r := Ev.now r
theorem ev_eq {α : Type} {g : Nat → Option α} {r r' : α} (h : Ev g r) (e : r = r') : Ev g r' := e ▸ h
theorem wrap_id {x : Int} (h0 : -9223372036854775808 ≤ x) (h1 : x ≤ 9223372036854775807) : wrap64 x = x := by unfold wrap64; omega
theorem wrap_succ {i n : Nat} (h : i < n) (hn : n ≤ 9223372036854775807) : wrap64 ((i : Int) + 1) = ((i + 1 : Nat) : Int) := by unfold wrap64; omega
theorem ev_loop {β : Type} {F : Nat → Int → Option β} {n : Nat} {p : Nat → Prop} {bad R : β}
    (hend : (∀ j, j < n → p j) → Ev (fun k => F k (n : Int)) R)
    (hgo : ∀ (i : Nat) (r : β), i < n → (∀ j, j < i → p j) → p i → Ev (fun k => F k ((i + 1 : Nat) : Int)) r → Ev (fun k => F k (i : Int)) r)
    (hbad : ∀ i : Nat, i < n → (∀ j, j < i → p j) → ¬ p i → Ev (fun k => F k (i : Int)) bad) :
    ((∀ j, j < n → p j) → Ev (fun k => F k 0) R) ∧ ((¬ ∀ j, j < n → p j) → Ev (fun k => F k 0) bad) := by
  have main : ∀ d i : Nat, i + d = n → (∀ j, j < i → p j) → ((∀ j, j < n → p j) → Ev (fun k => F k (i : Int)) R) ∧ ((¬ ∀ j, j < n → p j) → Ev (fun k => F k (i : Int)) bad) := by
    intro d
    induction d with
    | zero =>
      intro i hi hpre
      have hi' : i = n := by omega
      subst hi'
      exact ⟨hend, fun h => absurd hpre h⟩
    | succ d ih =>
      intro i hi hpre
      by_cases hp : p i
      · obtain ⟨h1, h2⟩ := ih (i + 1) (by omega) (fun j hj => by
          by_cases hji : j = i
          · subst hji; exact hp
          · exact hpre j (by omega))
        exact ⟨fun h => hgo i R (by omega) hpre hp (h1 h), fun h => hgo i bad (by omega) hpre hp (h2 h)⟩
      · exact ⟨fun h => absurd (h i (by omega)) hp, fun _ => hbad i (by omega) hpre hp⟩
  exact main n 0 (by omega) (fun j hj => by omega)
theorem ev_run {β σ : Type} {F : Nat → σ → Int → Option β} {n : Nat} {I : Nat → σ → Prop} {Post : β → Prop}
    (hend : ∀ s, I n s → ∃ r, Ev (fun k => F k s (n : Int)) r ∧ Post r)
    (hgo : ∀ (i : Nat) (s : σ), i < n → I i s → (∃ r, Ev (fun k => F k s (i : Int)) r ∧ Post r) ∨ ∃ s', I (i + 1) s' ∧ ∀ r, Ev (fun k => F k s' ((i + 1 : Nat) : Int)) r → Ev (fun k => F k s (i : Int)) r) :
    ∀ (d i : Nat) (s : σ), i + d = n → I i s → ∃ r, Ev (fun k => F k s (i : Int)) r ∧ Post r := by
  intro d
  induction d with
  | zero =>
    intro i s hi h
    have : i = n := by omega
    subst this
    exact hend s h
  | succ d ih =>
    intro i s hi h
    rcases hgo i s (by omega) h with h' | ⟨s', h1, h2⟩
    · exact h'
    · obtain ⟨r, h3, h4⟩ := ih (i + 1) s' (by omega) h1
      exact ⟨r, h2 r h3, h4⟩
theorem ev_map {α β : Type} {F : Nat → List β → Int → Option (List β)} {xs : List α} {f : α → β} {z : α}
    (hend : ∀ ys, ys.length = xs.length → Ev (fun k => F k ys (xs.length : Int)) ys)
    (hgo : ∀ (i : Nat) (ys : List β) (r : List β), i < xs.length → ys.length = xs.length → Ev (fun k => F k (ys.set i (f (xs.getD i z))) ((i + 1 : Nat) : Int)) r → Ev (fun k => F k ys (i : Int)) r)
    (ys : List β) (hl : ys.length = xs.length) : Ev (fun k => F k ys 0) (xs.map f) := by
  have main : ∀ (d i : Nat) (ys : List β), i + d = xs.length → ys.length = xs.length → Ev (fun k => F k ys (i : Int)) (ys.take i ++ (xs.drop i).map f) := by
    intro d
    induction d with
    | zero =>
      intro i ys hi hl
      have hi' : i = xs.length := by omega
      subst hi'
      have h1 := hend ys hl
      have h2 : ys.take xs.length = ys := List.take_of_length_le (by omega)
      have h3 : xs.drop xs.length = [] := List.drop_of_length_le (Nat.le_refl _)
      rw [h2, h3, List.map_nil, List.append_nil]
      exact h1
    | succ d ih =>
      intro i ys hi hl
      have hlt : i < xs.length := by omega
      refine hgo i ys _ hlt hl (ev_eq (ih (i + 1) _ (by omega) (by simpa using hl)) ?_)
      have hd : xs.drop i = xs[i] :: xs.drop (i + 1) := List.drop_eq_getElem_cons hlt
      have hg : xs.getD i z = xs[i] := by simp [List.getD_eq_getElem?_getD, List.getElem?_eq_getElem hlt]
      rw [hd, hg, List.map_cons]
      apply List.ext_getElem?
      intro j
      by_cases hj : j < i
      · rw [List.getElem?_append_left (by simp; omega), List.getElem?_append_left (by simp; omega), List.getElem?_take_of_lt (by omega), List.getElem?_take_of_lt hj, List.getElem?_set_ne (by omega)]
      · by_cases hji : j = i
        · subst hji
          rw [List.getElem?_append_left (by simp; omega), List.getElem?_append_right (by simp; omega), List.getElem?_take_of_lt (by omega), List.getElem?_set_self (by omega)]
          have : j - (ys.take j).length = 0 := by simp; omega
          rw [this]
          rfl
        · rw [List.getElem?_append_right (by simp; omega), List.getElem?_append_right (by simp; omega)]
          have e1 : j - ((ys.set i (f xs[i])).take (i + 1)).length = j - (i + 1) := by simp; omega
          have e2 : j - (ys.take i).length = (j - (i + 1)) + 1 := by simp; omega
          rw [e1, e2]
          rfl
  have := main xs.length 0 ys (by omega) hl
  simpa using this
def Z (g : Nat → Option Int) (left : Int) (P : Prop) : Prop := ∃ t, Ev g t ∧ t ≤ left ∧ (0 ≤ t → P)
theorem z_end {left : Int} : Z (fun _ => some left) left True := ⟨left, ev_some _, Int.le_refl _, fun _ => trivial⟩
theorem z_mono {g : Nat → Option Int} {left : Int} {P Q : Prop} (h : Z g left P) (hpq : P → Q) : Z g left Q := by
  obtain ⟨t, h1, h2, h3⟩ := h
  exact ⟨t, h1, h2, fun h => hpq (h3 h)⟩
theorem z_len {f : Nat → Option Int} {left : Int} {P : Prop} (s : Nat) (hs : s ≤ maxLen) (h0 : 0 ≤ left) (h1 : left ≤ 1048576) (hr : wrap64 (left - (s : Int)) = left - s → 0 ≤ left - s → Z f (left - s) P) :
    Z (fun k => if wrap64 (left - (s : Int)) < 0 then some (-1) else f k) left (s ≤ 1048576 ∧ P) := by
  simp only [maxLen] at hs
  have hw : wrap64 (left - (s : Int)) = left - s := wrap_id (by omega) (by omega)
  by_cases h : left - (s : Int) < 0
  · exact ⟨-1, ev_pos (by rw [hw]; exact h) (ev_some _), by omega, fun h => by omega⟩
  · obtain ⟨t, a, b, c⟩ := hr hw (by omega)
    exact ⟨t, ev_neg (by rw [hw]; exact h) a, by omega, fun h => ⟨by omega, c h⟩⟩
theorem z_call {g : Nat → Option Int} {f : Nat → Int → Option Int} {left : Int} {P Q : Prop} (h0 : 0 ≤ left) (h : Z g left P) (hr : ∀ t, 0 ≤ t → t ≤ left → Z (fun k => f k t) t Q) :
    Z (fun k => (g k).bind fun t => if t < 0 then some (-1) else f k t) left (P ∧ Q) := by
  obtain ⟨t, h1, h2, h3⟩ := h
  by_cases ht : t < 0
  · exact ⟨-1, ev_bind h1 (ev_pos ht (ev_some _)), by omega, fun h => by omega⟩
  · obtain ⟨t', a, b, c⟩ := hr t (by omega) h2
    exact ⟨t', ev_bind h1 (ev_neg ht a), by omega, fun h => ⟨h3 (by omega), c h⟩⟩
theorem z_loop {F : Nat → Int → Int → Option Int} {n : Nat} {P : Nat → Prop} (left : Int) (h0 : 0 ≤ left) (h1 : left ≤ 1048576)
    (hend : ∀ s, Ev (fun k => F k s (n : Int)) s)
    (hgo : ∀ (i : Nat) (s : Int), i < n → 0 ≤ s → s ≤ 1048576 → ∃ t, t ≤ s ∧ (0 ≤ t → P i) ∧ (t < 0 → Ev (fun k => F k s (i : Int)) (-1)) ∧ (0 ≤ t → ∀ r, Ev (fun k => F k t ((i + 1 : Nat) : Int)) r → Ev (fun k => F k s (i : Int)) r)) :
    Z (fun k => F k left 0) left (∀ i, i < n → P i) := by
  have main : ∀ (d i : Nat) (s : Int), i + d = n → 0 ≤ s → s ≤ 1048576 → (∀ j, j < i → P j) → ∃ t, Ev (fun k => F k s (i : Int)) t ∧ t ≤ s ∧ (0 ≤ t → ∀ j, j < n → P j) := by
    intro d
    induction d with
    | zero =>
      intro i s hi a b c
      have : i = n := by omega
      subst this
      exact ⟨s, hend s, Int.le_refl _, fun _ => c⟩
    | succ d ih =>
      intro i s hi a b c
      obtain ⟨t, g1, g2, g3, g4⟩ := hgo i s (by omega) a b
      by_cases ht : t < 0
      · exact ⟨-1, g3 ht, by omega, fun h => by omega⟩
      · obtain ⟨t', e1, e2, e3⟩ := ih (i + 1) t (by omega) (by omega) (by omega) (fun j hj => by
          by_cases hji : j = i
          · subst hji; exact g2 (by omega)
          · exact c j (by omega))
        exact ⟨t', g4 (by omega) t' e1, by omega, e3⟩
  obtain ⟨t, a, b, c⟩ := main n 0 left (by omega) h0 h1 (fun j hj => by omega)
  exact ⟨t, a, b, c⟩
theorem ev_pass {β : Type} {F : Nat → Int → Option β} {n : Nat} {R : β} (hend : Ev (fun k => F k (n : Int)) R) (hgo : ∀ (i : Nat) (r : β), i < n → Ev (fun k => F k ((i + 1 : Nat) : Int)) r → Ev (fun k => F k (i : Int)) r) : Ev (fun k => F k 0) R :=
  (ev_loop (p := fun _ => True) (bad := R) (fun _ => hend) (fun i r hi _ _ h => hgo i r hi h) (fun i _ _ h => absurd trivial h)).1 (fun _ _ => trivial)
theorem mem_rd {α : Type} {l : List α} {z : α} {i : Nat} (h : i < l.length) : l.getD i z ∈ l := by
  rw [List.getD_eq_getElem?_getD, List.getElem?_eq_getElem h]
  exact List.getElem_mem h
theorem of_mem_rd {α : Type} {l : List α} {z : α} {P : α → Prop} (h : ∀ i : Nat, i < l.length → P (l.getD i z)) : ∀ x ∈ l, P x := by
  intro x hx
  obtain ⟨i, hi, rfl⟩ := List.getElem_of_mem hx
  have := h i hi
  rwa [List.getD_eq_getElem?_getD, List.getElem?_eq_getElem hi] at this
end Go.Proofs.Ytobbemdkipknnaa.EvWords

