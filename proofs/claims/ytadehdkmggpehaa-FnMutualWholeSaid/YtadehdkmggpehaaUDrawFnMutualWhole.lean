import Derived.Test.YtadehdkmggpehaaULinesFnMutualWhole
set_option linter.unusedVariables false
set_option linter.unusedSimpArgs false
namespace Go.Proofs.Ytadehdkmggpehaa.PFnMutualWhole
open Go Go.RowKit Go.Proofs.YtadehdkmggpehaaW.PrintWords Go.Proofs.YtadehdkmggpehaaW.PrintLast Go.Proofs.Ytadehdkmggpehaa.MapWords Go.Proofs.Ytadehdkmggpehaa.IterWords Go.Proofs.Ytadehdkmggpehaa.EvWords
open Classical
theorem and_255 (x : Int) : 0 ≤ Go.bits .and .i64 x 255 ∧ Go.bits .and .i64 x 255 ≤ 255 := by
  have e : Go.bits .and .i64 x 255 = IntKind.i64.wrap (((BitVec.ofInt 64 x &&& BitVec.ofInt 64 255).toNat : Nat) : Int) := rfl
  rw [e, BitVec.toNat_and]
  have h : (BitVec.ofInt 64 255).toNat = 255 := by decide
  rw [h]
  have h2 : (BitVec.ofInt 64 x).toNat &&& 255 ≤ 255 := Nat.and_le_right
  generalize (BitVec.ofInt 64 x).toNat &&& 255 = n at h2
  rw [IntKind.wrap_i64]
  omega
theorem ob {α β : Type} {g : Option α} {f : α → Option β} {a : α} (h : g = some a) : g.bind f = f a := by rw [h]; rfl
def curP (s : List Int) (p : Int) : Prop := 0 ≤ p ∧ p ≤ (s.length : Int) ∧ s.length ≤ 1048576
section
variable {s : List Int} {p h : Int}
theorem d_byte (c : curP s p) : ∃ x p' h', spec_l1Byte.f s p h = some (x, p', h') ∧ (0 ≤ x ∧ x ≤ 255) ∧ curP s p' := by
  obtain ⟨c1, c2, c3⟩ := c
  unfold spec_l1Byte.f
  by_cases h1 : p < (s.length : Int)
  · rw [if_pos h1, if_pos c1]
    refine ⟨_, _, _, rfl, and_255 _, ?_⟩
    rw [wrap_id (by omega) (by omega)]
    exact ⟨by omega, by omega, c3⟩
  · rw [if_neg h1]
    exact ⟨_, _, _, rfl, and_255 _, c1, c2, c3⟩
theorem d_below (a : Int) (ha : a ≤ 9223372036854775807) (c : curP s p) : ∃ x p' h', spec_l1Below.f s p h a = some (x, p', h') ∧ (0 ≤ x ∧ (0 < a → x < a)) ∧ curP s p' := by
  unfold spec_l1Below.f
  by_cases h1 : a ≤ 0
  · rw [if_pos h1]
    exact ⟨_, _, _, rfl, ⟨by omega, by omega⟩, c⟩
  · rw [if_neg h1]
    have hm : ∀ y : Int, 0 ≤ y → 0 ≤ Int.tmod y a ∧ (0 < a → Int.tmod y a < a) := fun y hy => ⟨Int.tmod_nonneg _ hy, fun ha => Int.tmod_lt_of_pos _ ha⟩
    by_cases h2 : a ≤ 256
    · rw [if_pos h2]
      obtain ⟨x, p1, g1, e1, b1, c1⟩ := d_byte (h := h) c
      rw [ob e1, if_neg (by omega)]
      exact ⟨_, _, _, rfl, hm _ b1.1, c1⟩
    · rw [if_neg h2]
      obtain ⟨x1, p1, g1, e1, b1, c1⟩ := d_byte (h := h) c
      obtain ⟨x2, p2, g2, e2, b2, c2⟩ := d_byte (h := g1) c1
      obtain ⟨x3, p3, g3, e3, b3, c3⟩ := d_byte (h := g2) c2
      obtain ⟨x4, p4, g4, e4, b4, c4⟩ := d_byte (h := g3) c3
      rw [ob e1, ob e2, ob e3, ob e4, if_neg (by omega)]
      refine ⟨_, _, _, rfl, hm _ ?_, c4⟩
      show 0 ≤ wrap64 (wrap64 (wrap64 (wrap64 (x1 * 16777216) + wrap64 (x2 * 65536)) + wrap64 (x3 * 256)) + x4)
      rw [wrap_id (x := x1 * 16777216) (by omega) (by omega), wrap_id (x := x2 * 65536) (by omega) (by omega), wrap_id (x := x3 * 256) (by omega) (by omega), wrap_id (x := x1 * 16777216 + x2 * 65536) (by omega) (by omega), wrap_id (x := x1 * 16777216 + x2 * 65536 + x3 * 256) (by omega) (by omega), wrap_id (by omega) (by omega)]
      omega
theorem d_once (a : Int) (ha : a ≤ 9223372036854775807) (c : curP s p) : ∃ b p' h', spec_l1Once.f s p h a = some (b, p', h') ∧ curP s p' := by
  unfold spec_l1Once.f
  obtain ⟨x, p1, g1, e1, _, c1⟩ := d_below (h := h) a ha c
  rw [ob e1]
  exact ⟨_, _, _, rfl, c1⟩
theorem d_pickInt (l : List Int) (h0 : 0 < l.length) (hl : l.length ≤ 1000) (c : curP s p) : ∃ x p' h', spec_l1PickInt.f s p h l = some (x, p', h') ∧ x ∈ l ∧ curP s p' := by
  unfold spec_l1PickInt.f
  obtain ⟨x, p1, g1, e1, b1, c1⟩ := d_below (h := h) (l.length : Int) (by omega) c
  have b2 := b1.2 (by omega)
  rw [ob e1, if_pos b1.1, if_pos b2]
  refine ⟨_, _, _, rfl, ?_, c1⟩
  show l.getD x.toNat 0 ∈ l
  exact mem_rd (by omega)
end
theorem d_new (l : List Int) (hl : l.length ≤ 1048576) : EvP (fun k => spec_l1New.f k l) (fun r => r.1 = l ∧ curP l r.2.1) := by
  unfold spec_l1New.f
  exact ev_run (F := fun k s i => spec_l1New.l0 k l s i) (n := l.length) (I := fun _ _ => True) (Post := fun r => r.1 = l ∧ curP l r.2.1)
    (fun s _ => by
      refine ⟨(l, 0, s), ?_, rfl, by show curP l 0; exact ⟨by omega, by omega, hl⟩⟩
      refine Ev.step (fun _ => rfl) ?_
      simp only [spec_l1New.l0]
      exact ev_neg (by omega) (ev_some _))
    (fun i s hi _ => by
      by_cases h4 : i < 4000
      · refine .inr ⟨Go.bits .and .i64 (wrap64 ((wrap64 ((wrap64 (s * 131)) + (wrap64 (rd l (i : Int))))) + 7)) 1073741823, trivial, fun r hr => ?_⟩
        · refine Ev.step (fun _ => rfl) ?_
          simp only [spec_l1New.l0]
          refine ev_pos (by omega) (ev_pos (by omega) (ev_pos (by omega) ?_))
          rw [wrap_succ hi (by omega)]
          exact hr
      · refine .inl ⟨(l, 0, s), ?_, rfl, by show curP l 0; exact ⟨by omega, by omega, hl⟩⟩
        refine Ev.step (fun _ => rfl) ?_
        simp only [spec_l1New.l0]
        exact ev_pos (by omega) (ev_neg (by omega) (ev_some _)))
    l.length 0 _ (Nat.zero_add _) trivial
end Go.Proofs.Ytadehdkmggpehaa.PFnMutualWhole
