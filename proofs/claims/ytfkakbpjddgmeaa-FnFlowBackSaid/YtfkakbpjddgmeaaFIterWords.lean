import Derived.Lib.OthersKept
import Derived.WalkMore
import Derived.Test.YtfkakbpjddgmeaaFMapWords
set_option linter.unusedVariables false
set_option linter.unusedSimpArgs false
namespace Go.Proofs.Ytfkakbpjddgmeaa.IterWords
open Go Go.RowKit Go.Proofs.YtfkakbpjddgmeaaW.PrintWords Go.Proofs.YtfkakbpjddgmeaaW.PrintLast Go.Proofs.YtfkakbpjddgmeaaW.PrintMore Go.Proofs.Ytfkakbpjddgmeaa.MapWords Go.Lib
def itn (x : Int) : Nat := x.toNat
def itp (x : Int) : Int := ((itn x : Nat) : Int)
def itr (s : ByteArray) (x : Int) : Int := (((Utf8.decode s (itn x)).1 : Nat) : Int)
def itw (s : ByteArray) (x : Int) : Int := ((itn x + (Utf8.decode s (itn x)).2 : Nat) : Int)
theorem itn_itw (s : ByteArray) (x : Int) : itn (itw s x) = itn x + (Utf8.decode s (itn x)).2 := rfl
section
variable {P : Program} {ops : Array Oper} {rest : List Oper} {o : Oper} {a : Act} {Q : Exit → Act → World → Prop} {W : World}
theorem irange_event (hgd : o.guard = none) {N : Tmp} (_hd : o.dst = some N) (x : Operand) (t : TypeId) (ho : o.op = .range t x) (ht : P.underlying t = some .string) {s : ByteArray} (hx : a.eval x = .string s)
    (h : ∀ g, g = W.heap.size → ∀ w1, w1.heap[g]? = some (.stringIter s (itn 0)) → Below W.heap.size W w1 → wpList P ops Q rest (a.put o.dst (.pointer (some ⟨g, 0, none⟩))) w1) : wpList P ops Q (o :: rest) a W := by
  refine Kd.event_run (w1 := W.alloc (.stringIter s 0)) (v := .pointer (some ⟨W.heap.size, 0, none⟩)) hgd ?_ (h _ rfl _ (blk_new W _) (below_alloc (Below.refl _ _) _))
  have e := run_range_string (P := P) W t s ht
  simp [execOp, ho, hx]
  first | (rw [e]; rfl) | (simp [e, Result.andThen]; rfl) | simp [e, Result.andThen]
theorem inext_event (hgd : o.guard = none) (x : Operand) (ho : o.op = .next x true) {g : Nat} (hx : a.eval x = .pointer (some ⟨g, 0, none⟩)) {s : ByteArray} {pos : Int} (hb : W.heap[g]? = some (.stringIter s (itn pos))) (hp : itp pos < (s.size : Int))
    (h : ∀ w1, w1.heap[g]? = some (.stringIter s (itn (itw s pos))) → W.grownBy w1 (some g) → wpList P ops Q rest (a.put o.dst (.tuple #[.bool true, .int .i64 (itp pos), .int .i32 (itr s pos)])) w1) : wpList P ops Q (o :: rest) a W := by
  have hp' : itn pos < s.size := by unfold itp at hp; omega
  refine Kd.event_run (w1 := W.iterAt g s (itn pos + (Utf8.decode s (itn pos)).2)) (v := .tuple #[.bool true, .int .i64 (itp pos), .int .i32 (itr s pos)]) hgd ?_ (h _ (iterAt_heap W g s (itn pos) _ hb) ⟨rfl, rfl, rfl, by rw [iterAt_size]; exact Nat.le_refl _, fun k _ hk => iterAt_other W g k s _ (fun e => hk (by rw [e]))⟩)
  have e := run_next_any_at (P := P) W g s (itn pos) o.type hb hp'
  simp [execOp, ho, hx]
  first | (rw [e]; done) | (rw [e]; rfl)
theorem iend_event (hgd : o.guard = none) (x : Operand) (ho : o.op = .next x true) {g : Nat} (hx : a.eval x = .pointer (some ⟨g, 0, none⟩)) {s : ByteArray} {pos : Int} (hb : W.heap[g]? = some (.stringIter s (itn pos))) (hp : ¬ (itp pos < (s.size : Int)))
    (h : wpList P ops Q rest (a.put o.dst (.tuple #[.bool false])) W) : wpList P ops Q (o :: rest) a W := by
  have hp' : ¬ itn pos < s.size := by unfold itp at hp; omega
  refine Kd.event_run (w1 := W) (v := .tuple #[.bool false]) hgd ?_ h
  have e := run_next_end_at (P := P) W g s (itn pos) o.type hb hp'
  simp [execOp, ho, hx]
  first | (rw [e]; done) | (rw [e]; rfl)
end
theorem below_iter {w0 w w1 : World} {g : Nat} (hB : Below w0.heap.size w0 w) (hle : w0.heap.size ≤ g) (hg : w.grownBy w1 (some g)) : Below w0.heap.size w0 w1 :=
  hB.grown hg hB.size (fun k hk => by injection hk with hk; omega)
namespace Kd
section
variable {α : Type} {d : Kd α} {e g p : Nat} {s : ByteArray} {w w1 : World} {base : Nat} {ok : Nat → Prop} {v : Value} {xs : List α}
theorem R_neI (h : d.R e w base ok v xs) (hb : w.heap[g]? = some (.stringIter s p)) : some g ≠ v.ownBlock := fun he => by
  obtain ⟨cells, hc⟩ := Kd.R_typed h g he.symm
  rw [hb] at hc
  cases hc
theorem R_typesI (h : d.R e w base ok v xs) (hb : w.heap[g]? = some (.stringIter s p)) : d.R e w base (fun k => ok k ∧ k ≠ g) v xs :=
  Kd.R_mono (Kd.R_bound h) (fun k hk => ⟨hk.1, fun he => by
    obtain ⟨_, _, _, q, _, cells, hc⟩ := hk
    rw [he, hb] at hc
    cases hc⟩)
theorem R_iter (h : d.R e w base ok v xs) (hb : w.heap[g]? = some (.stringIter s p)) (hg : w.grownBy w1 (some g)) : d.R e w1 base ok v xs :=
  Kd.R_mono (Kd.R_move (Kd.R_bound (R_typesI h hb)) (fun k hk => hg.block k hk.2.2.1 (fun he => hk.1.2 (by injection he)))) (fun _ hk => hk.1.1)
end
section
variable {κ ε : Type} [DecidableEq κ] {m : MK κ ε} {e g p : Nat} {s : ByteArray} {w w1 : World} {base : Nat} {ok : Nat → Prop} {v : Value} {xs : List (κ × ε)}
end
end Kd
end Go.Proofs.Ytfkakbpjddgmeaa.IterWords

