import Derived.Test.YtadehdkmggpehaaUWWords
set_option linter.unusedVariables false
set_option linter.unusedSimpArgs false
namespace Go.Proofs.Ytadehdkmggpehaa.EvWords
open Go Go.RowKit Go.Proofs.YtadehdkmggpehaaW.PrintWords
theorem ev_pos {α : Type} {c : Prop} [Decidable c] {f g : Nat → Option α} {r : α} (h : c) (k : Ev f r) : Ev (fun n => if c then f n else g n) r := by
  simpa only [if_pos h] using k
theorem ev_neg {α : Type} {c : Prop} [Decidable c] {f g : Nat → Option α} {r : α} (h : ¬ c) (k : Ev g r) : Ev (fun n => if c then f n else g n) r := by
  simpa only [if_neg h] using k
theorem ev_bind {α β : Type} {g : Nat → Option α} {f : Nat → α → Option β} {a : α} {r : β} (h : Ev g a) (k : Ev (fun n => f n a) r) : Ev (fun n => (g n).bind (f n)) r := Ev.bind h k
theorem ev_bind0 {α β : Type} {g : Option α} {f : Nat → α → Option β} {a : α} {r : β} (h : g = some a) (k : Ev (fun n => f n a) r) : Ev (fun n => g.bind (f n)) r := by
  subst h
  exact k
theorem ev_some {α : Type} (r : α) : Ev (fun _ => some r) r := Ev.now r
theorem ev_eq {α : Type} {g : Nat → Option α} {r r' : α} (h : Ev g r) (e : r = r') : Ev g r' := e ▸ h
theorem ev_unique {α : Type} {g : Nat → Option α} {r q : α} (h : Ev g r) (k : Ev g q) : r = q := by
  obtain ⟨K, h⟩ := h
  obtain ⟨K', k⟩ := k
  have h1 := h (max K K') (Nat.le_max_left _ _)
  rw [k (max K K') (Nat.le_max_right _ _)] at h1
  exact (Option.some.inj h1).symm
theorem wrap_id {x : Int} (h0 : -9223372036854775808 ≤ x) (h1 : x ≤ 9223372036854775807) : wrap64 x = x := by unfold wrap64; omega
theorem wrap_succ {i n : Nat} (h : i < n) (hn : n ≤ 9223372036854775807) : wrap64 ((i : Int) + 1) = ((i + 1 : Nat) : Int) := by unfold wrap64; omega
theorem ev_loop {β : Type} {F : Nat → Int → Option β} {n : Nat} {p : Nat → Prop} {bad R : β}
    (hend : (∀ j, j < n → p j) → Ev (fun k => F k (n : Int)) R)
    (hgo : ∀ (i : Nat) (r : β), i < n → (∀ j, j < i → p j) → p i → Ev (fun k => F k ((i + 1 : Nat) : Int)) r → Ev (fun k => F k (i : Int)) r)
    (hbad : ∀ i : Nat, i < n → (∀ j, j < i → p j) → ¬ p i → Ev (fun k => F k (i : Int)) bad) :
    ((∀ j, j < n → p j) → Ev (fun k => F k 0) R) ∧ ((¬ ∀ j, j < n → p j) → Ev (fun k => F k 0) bad) := by
  have main : ∀ d i : Nat, i + d = n → (∀ j, j < i → p j) → ((∀ j, j < n → p j) → Ev (fun k => F k (i : Int)) R) ∧ ((¬ ∀ j, j < n → p j) → Ev (fun k => F k (i : Int)) bad) := by
    intro d
    induction d with
    | zero =>
      intro i hi hpre
      have hi' : i = n := by omega
      subst hi'
      exact ⟨hend, fun h => absurd hpre h⟩
    | succ d ih =>
      intro i hi hpre
      by_cases hp : p i
      · obtain ⟨h1, h2⟩ := ih (i + 1) (by omega) (fun j hj => by
          by_cases hji : j = i
          · subst hji; exact hp
          · exact hpre j (by omega))
        exact ⟨fun h => hgo i R (by omega) hpre hp (h1 h), fun h => hgo i bad (by omega) hpre hp (h2 h)⟩
      · exact ⟨fun h => absurd (h i (by omega)) hp, fun _ => hbad i (by omega) hpre hp⟩
  exact main n 0 (by omega) (fun j hj => by omega)
theorem ev_run {β σ : Type} {F : Nat → σ → Int → Option β} {n : Nat} {I : Nat → σ → Prop} {Post : β → Prop}
    (hend : ∀ s, I n s → ∃ r, Ev (fun k => F k s (n : Int)) r ∧ Post r)
    (hgo : ∀ (i : Nat) (s : σ), i < n → I i s → (∃ r, Ev (fun k => F k s (i : Int)) r ∧ Post r) ∨ ∃ s', I (i + 1) s' ∧ ∀ r, Ev (fun k => F k s' ((i + 1 : Nat) : Int)) r → Ev (fun k => F k s (i : Int)) r) :
    ∀ (d i : Nat) (s : σ), i + d = n → I i s → ∃ r, Ev (fun k => F k s (i : Int)) r ∧ Post r := by
  intro d
  induction d with
  | zero =>
    intro i s hi h
    have : i = n := by omega
    subst this
    exact hend s h
  | succ d ih =>
    intro i s hi h
    rcases hgo i s (by omega) h with h' | ⟨s', h1, h2⟩
    · exact h'
    · obtain ⟨r, h3, h4⟩ := ih (i + 1) s' (by omega) h1
      exact ⟨r, h2 r h3, h4⟩
theorem ev_pass {β : Type} {F : Nat → Int → Option β} {n : Nat} {R : β} (hend : Ev (fun k => F k (n : Int)) R) (hgo : ∀ (i : Nat) (r : β), i < n → Ev (fun k => F k ((i + 1 : Nat) : Int)) r → Ev (fun k => F k (i : Int)) r) : Ev (fun k => F k 0) R :=
  (ev_loop (p := fun _ => True) (bad := R) (fun _ => hend) (fun i r hi _ _ h => hgo i r hi h) (fun i _ _ h => absurd trivial h)).1 (fun _ _ => trivial)
theorem mem_rd {α : Type} {l : List α} {z : α} {i : Nat} (h : i < l.length) : l.getD i z ∈ l := by
  rw [List.getD_eq_getElem?_getD, List.getElem?_eq_getElem h]
  exact List.getElem_mem h
end Go.Proofs.Ytadehdkmggpehaa.EvWords

