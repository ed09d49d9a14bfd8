import Derived.Test.YtobbemdkipknnaaXWWords
import Derived.Test.YtobbemdkipknnaaXWApart
import Derived.Test.YtobbemdkipknnaaXMapWords
set_option linter.unusedVariables false
namespace Go.Proofs.Ytobbemdkipknnaa.SlimWords
open Go Go.RowKit Go.Proofs.YtobbemdkipknnaaW.PrintWords Go.Proofs.YtobbemdkipknnaaW.PrintLast Go.Proofs.Ytobbemdkipknnaa.MapWords
class Lt (w w' : World) : Prop where
  b : Below w.heap.size w w'
instance {w : World} : Lt w w := ⟨Below.refl _ _⟩
instance {w W : World} [h : Lt w W] {o : Obj} : Lt w (W.alloc o) := ⟨below_alloc h.b o⟩
instance {w W : World} [h : Lt w W] {n : Nat} : Lt w (W.drewN n) := ⟨pw_below_drewN h.b n⟩
instance {w W : World} [h : Lt w W] : Lt w W.drew := ⟨below_drew h.b⟩
section
variable {w W w0 : World} [h : Lt w W]
theorem bkZ {g : Nat} {o : Obj} (k : w.heap[g]? = some o) : W.heap[g]? = some o := blk_below k h.b
theorem lZB (k : Below w0.heap.size w0 w) : Below w0.heap.size w0 W := below_step k h.b
theorem lZR {α : Type} {d : Kd α} {e base : Nat} {ok : Nat → Prop} {v : Value} {xs : List α} (k : d.R e w base ok v xs) : d.R e W base ok v xs := Kd.R_below k h.b
theorem lZS {α : Type} {d : Kd α} {e base : Nat} {ok : Nat → Prop} {v : Value} {xs : List α} (k : Kd.S d e w base ok v xs) : Kd.S d e W base ok v xs := Kd.S_below k h.b
theorem lZY {κ ε : Type} [DecidableEq κ] {m : MK κ ε} {e base : Nat} {ok : Nat → Prop} {v : Value} {xs : List (κ × ε)} (k : Kd.Y m e w base ok v xs) : Kd.Y m e W base ok v xs := Kd.Y_below k h.b
end
theorem bZ {w W : World} (h : Below w.heap.size w W := by repeat (first | (with_reducible first | exact HB.out | apply below_alloc | apply pw_below_drewN | apply below_drew1 | refine below_set ?_ (Aside0.out (by assumption))) | exact HB.out)) : Below w.heap.size w W := h
theorem aZ {p : Prop} (h : p) : Aside0 p := ⟨h⟩
theorem sZ1 {α : Type} {xs : List α} {i : Nat} {a : α} : xs.toArray.setIfInBounds i a = (xs.set i a).toArray := List.setIfInBounds_toArray ..
theorem sZ2 {α : Type} {x : α} {xs : List α} {a : α} : (x :: xs).set 0 a = a :: xs := rfl
theorem sZ3 {α : Type} {x : α} {xs : List α} {n : Nat} {a : α} : (x :: xs).set (n + 1) a = x :: xs.set n a := rfl
theorem tZA {p : Prop} (h : p := by (try simp only [List.map_toArray, List.map_cons, List.map_nil]); first | done | rfl | (simp only [List.length_drop, List.length_take]; rfl)) : p := h
theorem tZB {p : Prop} (h : p := by first | rfl | (simp; done) | (simp [*]; done)) : p := h
theorem tZC {p : Prop} (h : p := by first | rfl | (simp [errW_none, errW_some] <;> rfl) | (simp [*, errW_none, errW_some] <;> rfl)) : p := h
theorem tZD {p : Prop} (h : p := by repeat (first | exact Drawn0.refl _ | apply Drawn0.step)) : p := h
theorem kZ {p : Prop} (h : p := by kernel_rfl) : p := h
theorem tZE {p : Prop} (h : p := by assumption) : p := h
theorem cZ {w w' : World} {a : Addr} {v : Value} (hB : Aside0 (Below w.heap.size w w')) (h : w.cell? a = some v) : w'.cell? a = some v := (hB.out.cell (World.block_lt_of_cell? w _ h)).trans h
theorem bc3 {w : World} {g : Nat} {t : TypeId} {a0 a1 a2 : Value} (h : w.heap[g]? = some (.cells #[a0, a1, a2] t (0, 0))) : w.cell? ⟨g, 0, none⟩ = some a0 ∧ w.cell? ⟨g, 1, none⟩ = some a1 ∧ w.cell? ⟨g, 2, none⟩ = some a2 ∧ w.frozen? ⟨g, 0, none⟩ = false ∧ w.frozen? ⟨g, 1, none⟩ = false ∧ w.frozen? ⟨g, 2, none⟩ = false := ⟨(blk_cell h 0).trans rfl, (blk_cell h 1).trans rfl, (blk_cell h 2).trans rfl, blk_frozen h 0, blk_frozen h 1, blk_frozen h 2⟩
theorem bc4 {w : World} {g : Nat} {t : TypeId} {a0 a1 a2 a3 : Value} (h : w.heap[g]? = some (.cells #[a0, a1, a2, a3] t (0, 0))) : w.cell? ⟨g, 0, none⟩ = some a0 ∧ w.cell? ⟨g, 1, none⟩ = some a1 ∧ w.cell? ⟨g, 2, none⟩ = some a2 ∧ w.cell? ⟨g, 3, none⟩ = some a3 ∧ w.frozen? ⟨g, 0, none⟩ = false ∧ w.frozen? ⟨g, 1, none⟩ = false ∧ w.frozen? ⟨g, 2, none⟩ = false ∧ w.frozen? ⟨g, 3, none⟩ = false := ⟨(blk_cell h 0).trans rfl, (blk_cell h 1).trans rfl, (blk_cell h 2).trans rfl, (blk_cell h 3).trans rfl, blk_frozen h 0, blk_frozen h 1, blk_frozen h 2, blk_frozen h 3⟩
theorem tZR {p : Prop} (h : p := by rfl) : p := h
theorem tZS {p : Prop} (h : p := by first | (go_simp; done) | (go_simp; rfl)) : p := h
theorem nLt {w : World} {g g' : Nat} {o : Obj} (e : g' = w.heap.size) (h : w.heap[g]? = some o) : g ≠ g' := by rw [e]; exact Nat.ne_of_lt (blk_lt h)
theorem nGt {w : World} {g g' : Nat} {o : Obj} (e : g' = w.heap.size) (h : w.heap[g]? = some o) : g' ≠ g := by rw [e]; exact Nat.ne_of_gt (blk_lt h)
end Go.Proofs.Ytobbemdkipknnaa.SlimWords

