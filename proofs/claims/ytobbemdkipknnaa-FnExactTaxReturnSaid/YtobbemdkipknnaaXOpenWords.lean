import Derived.Test.YtobbemdkipknnaaXWWords
import Derived.WalkKit
import Derived.ProofKit
import Derived.OpenShut
import Derived.ChangeSlices
set_option linter.unusedVariables false
namespace Go.Proofs.Ytobbemdkipknnaa.OpenWords
open Go Go.RowKit Go.Proofs.YtobbemdkipknnaaW.PrintWords Go.ChangeShapes Go.WideShapes
def Opens (P : Program) (w : World) {α : Type} (d : Kd α) (WF : α → Prop) (t : TypeId) : Prop :=
  ∀ (H : Type) (enc : TypeId × Value → H) (base : Nat) (spare : Nat → Bool) (held : Bool) (fuel : Nat) (cs : List Value) (x : DataW H × List MemPlace),
    DataW.trod enc P w base spare held fuel t cs = some x → ∃ a, d.K w a cs ∧ WF a
def OpensF (P : Program) (w : World) {α : Type} (d : Kd α) (WF : α → Prop) (fs : List Field) (off : Nat) : Prop :=
  ∀ (H : Type) (enc : TypeId × Value → H) (base : Nat) (spare : Nat → Bool) (held : Bool) (n : Nat) (cs : List Value) (xs : List (DataW H × List MemPlace)),
    xs.length = fs.length → cs.length = off + d.sz →
    (∀ (i : Nat) (f : Field), fs[i]? = some f → DataW.trod enc P w base spare held n f.type ((cs.drop f.offset).take (P.cellsOf f.type)) = xs[i]?) → ∃ a, d.K w a (cs.drop off) ∧ WF a
theorem list_of {α : Type} {Q : Nat → α → Prop} : ∀ n : Nat, (∀ i, i < n → ∃ y, Q i y) → ∃ l : List α, l.length = n ∧ ∀ i y, l[i]? = some y → Q i y
  | 0, _ => ⟨[], rfl, fun i y h => by simp at h⟩
  | n + 1, h => by
    obtain ⟨l, h1, h2⟩ := list_of n (fun i hi => h i (by omega))
    obtain ⟨y, hy⟩ := h n (by omega)
    refine ⟨l ++ [y], by simp [h1], fun i z hz => ?_⟩
    by_cases hi : i < n
    · rw [List.getElem?_append_left (by omega)] at hz
      exact h2 i z hz
    · rw [List.getElem?_append_right (by omega)] at hz
      have h3 : i - l.length = 0 := by
        have := (List.getElem?_eq_some_iff.1 hz).1
        simp at this
        omega
      rw [h3] at hz
      simp at hz
      have h4 : i = n := by omega
      subst h4
      subst hz
      exact hy
theorem add_add_ (a : Addr) (i j : Nat) : (a.add i).add j = a.add (i + j) := by
  unfold Addr.add
  by_cases h1 : i = 0 <;> by_cases h2 : j = 0 <;> simp [h1, h2, Nat.add_assoc]
section
variable {P : Program} {w : World} {t : TypeId}
theorem opens_int {k : IntKind} (ht : P.underlying t = some (.int k)) : Opens P w (Kd.int k) (fun x => (Lit.int k x).wf = true) t := by
  intro H enc base spare held fuel cs x h
  obtain ⟨n, rfl, _, hw⟩ := DataW.trod_int ht h
  exact ⟨n, rfl, hw⟩
theorem opens_bool (ht : P.underlying t = some .bool) : Opens P w Kd.bool (fun _ => True) t := by
  intro H enc base spare held fuel cs x h
  obtain ⟨n, rfl, _⟩ := DataW.trod_bool ht h
  exact ⟨n, rfl, trivial⟩
theorem opens_string (ht : P.underlying t = some .string) : Opens P w Kd.string (fun s => s.size ≤ maxLen) t := by
  intro H enc base spare held fuel cs x h
  obtain ⟨n, rfl, _, hw⟩ := DataW.trod_string ht h
  exact ⟨n, rfl, hw⟩
theorem opens_slice {α : Type} {d : Kd α} {WF : α → Prop} {e : TypeId} (ht : P.underlying t = some (.slice e)) (hsz : P.cellsOf e = d.sz) (ho : Opens P w d WF e) :
    Opens P w (Kd.slice e d) (fun l => l.length ≤ maxLen ∧ ∀ x ∈ l, WF x) t := by
  intro H enc base spare held fuel cs x h
  rcases DataW.trod_slice ht h with ⟨rfl, _⟩ | ⟨a, len, cap, elems, rest, n, _, rfl, _, hb, hl, hm, hlen, hel, _, _⟩
  · exact ⟨[], ⟨none, 0, rfl, Nat.le_refl _, ⟨rfl, by simp, fun h => absurd h (by simp)⟩⟩, by simp, by simp⟩
  · have each : ∀ i, i < len → ∃ y, (∃ c, c.length = d.sz ∧ d.K w y c ∧ ∀ j u, c[j]? = some u → w.cell? (a.add (i * d.sz + j)) = some u) ∧ WF y := by
      intro i hi
      have h1 := hel i hi
      rw [List.getElem?_eq_getElem (by omega), Option.bind_eq_some_iff] at h1
      obtain ⟨c, hc, htr⟩ := h1
      obtain ⟨y, hk, hw⟩ := ho _ _ _ _ _ _ _ _ htr
      refine ⟨y, ⟨c, d.K_len hk, hk, fun j u hj => ?_⟩, hw⟩
      have hjlt : j < P.cellsOf e := by
        have := (List.getElem?_eq_some_iff.1 hj).1
        rw [d.K_len hk] at this
        omega
      have h2 := (World.cells?_some hc).2.2 j hjlt
      rw [hj] at h2
      rw [← h2, hsz, add_add_]
    obtain ⟨l, hl1, hl2⟩ := list_of len each
    refine ⟨l, ⟨some a, cap, by rw [hl1], by omega, ⟨rfl, by simp only [maxLen] at hm; omega, fun hn => ⟨a, rfl, fun j p hj => (hl2 j p hj).1⟩⟩⟩, by omega, fun y hy => ?_⟩
    obtain ⟨i, hi⟩ := List.getElem?_of_mem hy
    exact (hl2 i y hi).2
theorem openF_one {α : Type} {d : Kd α} {WF : α → Prop} {f : Field} {off : Nat} (ho : Opens P w d WF f.type) (hoff : f.offset = off) (hsz : P.cellsOf f.type = d.sz) : OpensF P w d WF [f] off := by
  intro H enc base spare held n cs xs hx hl h
  have h0 := h 0 f rfl
  rw [List.getElem?_eq_getElem (by simp [hx]), hoff, List.take_of_length_le (by rw [List.length_drop]; omega)] at h0
  exact ho _ _ _ _ _ _ _ _ h0
theorem openF_cons {α β : Type} {d : Kd α} {WF : α → Prop} {d2 : Kd β} {WF2 : β → Prop} {f : Field} {fs : List Field} {off : Nat} (ho : Opens P w d WF f.type) (hoff : f.offset = off) (hsz : P.cellsOf f.type = d.sz)
    (hr : OpensF P w d2 WF2 fs (off + d.sz)) : OpensF P w (Kd.pair d d2) (fun p => WF p.1 ∧ WF2 p.2) (f :: fs) off := by
  intro H enc base spare held n cs xs hx hl h
  have hl' : cs.length = off + (d.sz + d2.sz) := hl
  have h0 := h 0 f rfl
  cases xs with
  | nil => simp at hx
  | cons x0 xs =>
    simp only [List.getElem?_cons_zero] at h0
    rw [hoff, hsz] at h0
    obtain ⟨a, ha, hwa⟩ := ho _ _ _ _ _ _ _ _ h0
    obtain ⟨b, hb, hwb⟩ := hr H enc base spare held n cs xs (by simpa using hx) (by omega) (fun i g hg => by have := h (i + 1) g (by simpa using hg); simpa using this)
    refine ⟨(a, b), ⟨_, _, ?_, ha, hb⟩, hwa, hwb⟩
    rw [← List.drop_drop, List.take_append_drop]
theorem opens_struct {α β : Type} {d : Kd α} {WF : α → Prop} {fs : Array Field} (f : β → α) (g : α → β) (hfg : ∀ a, f (g a) = a) (ht : P.underlying t = some (.struct fs)) (hsz : P.cellsOf t = d.sz) (hf : OpensF P w d WF fs.toList 0) :
    Opens P w (Kd.iso d f) (fun b => WF (f b)) t := by
  intro H enc base spare held fuel cs x h
  obtain ⟨xs, n, _, _, hlen, hxl, hxs⟩ := DataW.trod_struct ht h
  obtain ⟨a, ha, hw⟩ := hf H enc base spare held n cs xs (by simpa using hxl) (by omega) (fun i g hg => hxs i g (by simpa using hg))
  refine ⟨g a, ?_, by show WF (f (g a)); rw [hfg]; exact hw⟩
  show d.K w (f (g a)) cs
  rw [hfg]
  simpa using ha
end
end Go.Proofs.Ytobbemdkipknnaa.OpenWords

