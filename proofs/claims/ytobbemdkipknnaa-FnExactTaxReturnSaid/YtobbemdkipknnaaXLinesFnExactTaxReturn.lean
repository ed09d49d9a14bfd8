import Derived.Test.YtobbemdkipknnaaXEvWords
import Derived.Test.YtobbemdkipknnaaXPFnExactTaxReturnx
import Derived.Test.YtobbemdkipknnaaXIterWords
set_option linter.unusedVariables false
set_option linter.unusedSimpArgs false
namespace Go.Proofs.Ytobbemdkipknnaa.PFnExactTaxReturn
open Go Go.RowKit Go.Proofs.YtobbemdkipknnaaW.PrintWords Go.Proofs.YtobbemdkipknnaaW.PrintLast Go.Proofs.Ytobbemdkipknnaa.MapWords Go.Proofs.Ytobbemdkipknnaa.IterWords Go.Proofs.Ytobbemdkipknnaa.EvWords
open Classical
def EvP {α : Type} (g : Nat → Option α) (P : α → Prop) : Prop := ∃ v, Ev g v ∧ P v
theorem evp_step {α : Type} {g f : Nat → Option α} {P : α → Prop} (h : ∀ k, g (k + 1) = f k) (k : EvP f P) : EvP g P := by
  obtain ⟨v, h1, h2⟩ := k
  exact ⟨v, Ev.step h h1, h2⟩
theorem evp_pos {α : Type} {c : Prop} [Decidable c] {f g : Nat → Option α} {P : α → Prop} (h : c) (k : EvP f P) : EvP (fun n => if c then f n else g n) P := by
  obtain ⟨v, h1, h2⟩ := k
  exact ⟨v, ev_pos h h1, h2⟩
theorem evp_neg {α : Type} {c : Prop} [Decidable c] {f g : Nat → Option α} {P : α → Prop} (h : ¬ c) (k : EvP g P) : EvP (fun n => if c then f n else g n) P := by
  obtain ⟨v, h1, h2⟩ := k
  exact ⟨v, ev_neg h h1, h2⟩
theorem evp_ite {α : Type} {c : Prop} [Decidable c] {f g : Nat → Option α} {P : α → Prop} (h : c → EvP f P) (k : ¬ c → EvP g P) : EvP (fun n => if c then f n else g n) P := by
  by_cases hc : c
  · exact evp_pos hc (h hc)
  · exact evp_neg hc (k hc)
theorem evp_bind {α β : Type} {g : Nat → Option α} {f : Nat → α → Option β} {Q : α → Prop} {P : β → Prop} (h : EvP g Q) (k : ∀ a, Q a → EvP (fun n => f n a) P) : EvP (fun n => (g n).bind (f n)) P := by
  obtain ⟨a, h1, h2⟩ := h
  obtain ⟨v, h3, h4⟩ := k a h2
  exact ⟨v, ev_bind h1 h3, h4⟩
theorem evp_bind0 {α β : Type} {g : Option α} {f : Nat → α → Option β} {a : α} {P : β → Prop} (h : g = some a) (k : EvP (fun n => f n a) P) : EvP (fun n => g.bind (f n)) P := by
  obtain ⟨v, h3, h4⟩ := k
  exact ⟨v, ev_bind0 h h3, h4⟩
theorem evp_some {α : Type} {r : α} {P : α → Prop} (h : P r) : EvP (fun _ => some r) P := ⟨r, ev_some _, h⟩
theorem evp_ev {α : Type} {g : Nat → Option α} {v : α} (h : Ev g v) : EvP g (fun x => x = v) := ⟨v, h, rfl⟩
theorem evp_mono {α : Type} {g : Nat → Option α} {P Q : α → Prop} (h : EvP g P) (k : ∀ v, P v → Q v) : EvP g Q := by
  obtain ⟨v, h1, h2⟩ := h
  exact ⟨v, h1, k v h2⟩
end Go.Proofs.Ytobbemdkipknnaa.PFnExactTaxReturn
