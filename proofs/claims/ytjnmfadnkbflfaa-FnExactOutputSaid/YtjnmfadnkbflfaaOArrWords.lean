import Derived.Test.YtjnmfadnkbflfaaOWMore
import Derived.Test.YtjnmfadnkbflfaaOWAt
import Derived.Test.YtjnmfadnkbflfaaOWLast
set_option linter.unusedVariables false
set_option linter.unusedSimpArgs false
namespace Go.Proofs.Ytjnmfadnkbflfaa.ArrWords
open Go Go.RowKit Go.Proofs.YtjnmfadnkbflfaaW.PrintWords Go.Proofs.YtjnmfadnkbflfaaW.PrintLast Go.Proofs.YtjnmfadnkbflfaaW.PrintMore
def ptrOf : Value → Value
  | .slice A _ _ => .pointer A
  | v => v
theorem ptrOf_slice (A : Option Addr) (n c : Nat) : ptrOf (.slice A n c) = .pointer A := rfl
theorem reps_map {α : Type} (enc : α → Value) (xs : List α) : Reps (fun x cs => cs = [enc x]) 1 xs (xs.map enc) := by
  refine ⟨by simp, fun j p hj => ?_⟩
  obtain ⟨hlt, rfl⟩ := List.getElem?_eq_some_iff.1 hj
  rw [Nat.mul_one, List.drop_eq_getElem_cons (by simpa using hlt), List.take_succ_cons, List.take_zero, List.getElem_map]
section
variable {P : Program} {ops : Array Oper} {rest : List Oper} {o : Oper} {a : Act} {Q : Exit → Act → World → Prop}
theorem A_make {α : Type} (d : Kd α) (enc : α → Value) (h1 : ∀ x : α, (enc x).oneCell' = true) (hdd : d = Kd.scalar enc h1) {W : World} (e : Nat) (hgd : o.guard = none) {N : Tmp} (_hd : o.dst = some N) {xs : List α} {cs : Array Value}
    (hrun : (execOp a.eval o).run P W = .ok (.value (.pointer (some ⟨W.heap.size, 0, none⟩))) (W.alloc (.cells cs e (0, 0)))) (hcs : cs.toList = xs.map enc) (hm : xs.length ≤ 9223372036854775807)
    (h : ∀ v1 w1, d.R e w1 W.heap.size (fun _ => True) v1 xs → Below W.heap.size W w1 → wpList P ops Q rest (a.put o.dst (ptrOf v1)) w1) : wpList P ops Q (o :: rest) a W := by
  subst hdd
  refine Kd.event_run hgd hrun (h (.slice (some ⟨W.heap.size, 0, none⟩) xs.length xs.length) _ ⟨fun k hk => trivial, xs.map enc, ?_, ?_⟩ (below_alloc (Below.refl _ _) _))
  · have h2 := World.ownsRow_lit (base := W.heap.size) (e := e) (size := 1) W cs xs.length (Nat.le_refl _) (by simpa [maxLen] using hm) (by
      have := congrArg List.length hcs
      simp only [Array.length_toList, List.length_map] at this
      omega)
    rw [hcs] at h2
    exact h2
  · exact reps_map enc xs
end
end Go.Proofs.Ytjnmfadnkbflfaa.ArrWords

