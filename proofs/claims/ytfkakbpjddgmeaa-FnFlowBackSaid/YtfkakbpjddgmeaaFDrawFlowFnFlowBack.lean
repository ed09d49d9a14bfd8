import Derived.Test.YtfkakbpjddgmeaaFLinesFnFlowBack
import Derived.Test.YtfkakbpjddgmeaaFShowFnFlowBack
set_option linter.unusedVariables false
set_option linter.unusedSimpArgs false
namespace Go.Proofs.Ytfkakbpjddgmeaa.PFnFlowBack
open Go Go.RowKit Go.Proofs.YtfkakbpjddgmeaaW.PrintWords Go.Proofs.YtfkakbpjddgmeaaW.PrintLast Go.Proofs.Ytfkakbpjddgmeaa.MapWords Go.Proofs.Ytfkakbpjddgmeaa.IterWords Go.Proofs.Ytfkakbpjddgmeaa.EvWords
open Classical
theorem and_255 (x : Int) : 0 ≤ Go.bits .and .i64 x 255 ∧ Go.bits .and .i64 x 255 ≤ 255 := by
  have e : Go.bits .and .i64 x 255 = IntKind.i64.wrap (((BitVec.ofInt 64 x &&& BitVec.ofInt 64 255).toNat : Nat) : Int) := rfl
  rw [e, BitVec.toNat_and]
  have h : (BitVec.ofInt 64 255).toNat = 255 := by decide
  rw [h]
  have h2 : (BitVec.ofInt 64 x).toNat &&& 255 ≤ 255 := Nat.and_le_right
  generalize (BitVec.ofInt 64 x).toNat &&& 255 = n at h2
  rw [IntKind.wrap_i64]
  omega
theorem ob {α β : Type} {g : Option α} {f : α → Option β} {a : α} (h : g = some a) : g.bind f = f a := by rw [h]; rfl
def curP (s : List Int) (p : Int) : Prop := 0 ≤ p ∧ p ≤ (s.length : Int) ∧ s.length ≤ 1048576
section
variable {s : List Int} {p h : Int}
theorem d_byte (c : curP s p) : ∃ x p' h', spec_l1Byte.f s p h = some (x, p', h') ∧ (0 ≤ x ∧ x ≤ 255) ∧ curP s p' := by
  obtain ⟨c1, c2, c3⟩ := c
  unfold spec_l1Byte.f
  by_cases h1 : p < (s.length : Int)
  · rw [if_pos h1, if_pos c1]
    refine ⟨_, _, _, rfl, and_255 _, ?_⟩
    rw [wrap_id (by omega) (by omega)]
    exact ⟨by omega, by omega, c3⟩
  · rw [if_neg h1]
    exact ⟨_, _, _, rfl, and_255 _, c1, c2, c3⟩
theorem d_below (a : Int) (ha : a ≤ 9223372036854775807) (c : curP s p) : ∃ x p' h', spec_l1Below.f s p h a = some (x, p', h') ∧ (0 ≤ x ∧ (0 < a → x < a)) ∧ curP s p' := by
  unfold spec_l1Below.f
  by_cases h1 : a ≤ 0
  · rw [if_pos h1]
    exact ⟨_, _, _, rfl, ⟨by omega, by omega⟩, c⟩
  · rw [if_neg h1]
    have hm : ∀ y : Int, 0 ≤ y → 0 ≤ Int.tmod y a ∧ (0 < a → Int.tmod y a < a) := fun y hy => ⟨Int.tmod_nonneg _ hy, fun ha => Int.tmod_lt_of_pos _ ha⟩
    by_cases h2 : a ≤ 256
    · rw [if_pos h2]
      obtain ⟨x, p1, g1, e1, b1, c1⟩ := d_byte (h := h) c
      rw [ob e1, if_neg (by omega)]
      exact ⟨_, _, _, rfl, hm _ b1.1, c1⟩
    · rw [if_neg h2]
      obtain ⟨x1, p1, g1, e1, b1, c1⟩ := d_byte (h := h) c
      obtain ⟨x2, p2, g2, e2, b2, c2⟩ := d_byte (h := g1) c1
      obtain ⟨x3, p3, g3, e3, b3, c3⟩ := d_byte (h := g2) c2
      obtain ⟨x4, p4, g4, e4, b4, c4⟩ := d_byte (h := g3) c3
      rw [ob e1, ob e2, ob e3, ob e4, if_neg (by omega)]
      refine ⟨_, _, _, rfl, hm _ ?_, c4⟩
      show 0 ≤ wrap64 (wrap64 (wrap64 (wrap64 (x1 * 16777216) + wrap64 (x2 * 65536)) + wrap64 (x3 * 256)) + x4)
      rw [wrap_id (x := x1 * 16777216) (by omega) (by omega), wrap_id (x := x2 * 65536) (by omega) (by omega), wrap_id (x := x3 * 256) (by omega) (by omega), wrap_id (x := x1 * 16777216 + x2 * 65536) (by omega) (by omega), wrap_id (x := x1 * 16777216 + x2 * 65536 + x3 * 256) (by omega) (by omega), wrap_id (by omega) (by omega)]
      omega
theorem d_once (a : Int) (ha : a ≤ 9223372036854775807) (c : curP s p) : ∃ b p' h', spec_l1Once.f s p h a = some (b, p', h') ∧ curP s p' := by
  unfold spec_l1Once.f
  obtain ⟨x, p1, g1, e1, _, c1⟩ := d_below (h := h) a ha c
  rw [ob e1]
  exact ⟨_, _, _, rfl, c1⟩
theorem d_pickInt (l : List Int) (h0 : 0 < l.length) (hl : l.length ≤ 1000) (c : curP s p) : ∃ x p' h', spec_l1PickInt.f s p h l = some (x, p', h') ∧ x ∈ l ∧ curP s p' := by
  unfold spec_l1PickInt.f
  obtain ⟨x, p1, g1, e1, b1, c1⟩ := d_below (h := h) (l.length : Int) (by omega) c
  have b2 := b1.2 (by omega)
  rw [ob e1, if_pos b1.1, if_pos b2]
  refine ⟨_, _, _, rfl, ?_, c1⟩
  show l.getD x.toNat 0 ∈ l
  exact mem_rd (by omega)
theorem d_pick (l : List ByteArray) (h0 : 0 < l.length) (hl : l.length ≤ 1000) (c : curP s p) : ∃ x p' h', spec_l1Pick.f s p h l = some (x, p', h') ∧ x ∈ l ∧ curP s p' := by
  unfold spec_l1Pick.f
  obtain ⟨x, p1, g1, e1, b1, c1⟩ := d_below (h := h) (l.length : Int) (by omega) c
  have b2 := b1.2 (by omega)
  rw [ob e1, if_pos b1.1, if_pos b2]
  refine ⟨_, _, _, rfl, ?_, c1⟩
  show l.getD x.toNat _ ∈ l
  exact mem_rd (by omega)
end
theorem d_new (l : List Int) (hl : l.length ≤ 1048576) : EvP (fun k => spec_l1New.f k l) (fun r => r.1 = l ∧ curP l r.2.1) := by
  unfold spec_l1New.f
  exact ev_run (F := fun k s i => spec_l1New.l0 k l s i) (n := l.length) (I := fun _ _ => True) (Post := fun r => r.1 = l ∧ curP l r.2.1)
    (fun s _ => by
      refine ⟨(l, 0, s), ?_, rfl, by show curP l 0; exact ⟨by omega, by omega, hl⟩⟩
      refine Ev.step (fun _ => rfl) ?_
      simp only [spec_l1New.l0]
      exact ev_neg (by omega) (ev_some _))
    (fun i s hi _ => by
      by_cases h4 : i < 4000
      · refine .inr ⟨Go.bits .and .i64 (wrap64 ((wrap64 ((wrap64 (s * 131)) + (wrap64 (rd l (i : Int))))) + 7)) 1073741823, trivial, fun r hr => ?_⟩
        · refine Ev.step (fun _ => rfl) ?_
          simp only [spec_l1New.l0]
          refine ev_pos (by omega) (ev_pos (by omega) (ev_pos (by omega) ?_))
          rw [wrap_succ hi (by omega)]
          exact hr
      · refine .inl ⟨(l, 0, s), ?_, rfl, by show curP l 0; exact ⟨by omega, by omega, hl⟩⟩
        refine Ev.step (fun _ => rfl) ?_
        simp only [spec_l1New.l0]
        exact ev_pos (by omega) (ev_neg (by omega) (ev_some _)))
    l.length 0 _ (Nat.zero_add _) trivial
end Go.Proofs.Ytfkakbpjddgmeaa.PFnFlowBack

set_option linter.unusedVariables false
set_option linter.unusedSimpArgs false
namespace Go.Proofs.Ytfkakbpjddgmeaa.PFnFlowBack
open Go Go.RowKit Go.Proofs.YtfkakbpjddgmeaaW.PrintWords Go.Proofs.YtfkakbpjddgmeaaW.PrintLast Go.Proofs.Ytfkakbpjddgmeaa.MapWords Go.Proofs.Ytfkakbpjddgmeaa.IterWords Go.Proofs.Ytfkakbpjddgmeaa.EvWords
open Classical
def okS (m : Nat) (y : Stp) : Prop := y.f1.length ≤ m ∧ ∀ z ∈ y.f1, z.size ≤ 100
def okD (r : List Stp) : Prop := 1 ≤ r.length ∧ r.length ≤ 10 ∧ ∀ y ∈ r, okS 10 y ∧ 1 ≤ y.f1.length
theorem has_any (l : List ByteArray) (a : ByteArray) (hl : l.length ≤ 1000) : EvP (fun k => spec_l10Has.f k l a) (fun b => l = [] → b = false) := by
  unfold spec_l10Has.f
  obtain ⟨g1, g2⟩ := ev_loop (F := fun k x => spec_l10Has.l0 k l a x) (n := l.length) (p := fun j => ¬ (nm l j).toList = a.toList) (R := false) (bad := true)
    (fun _ => by
      refine Ev.step (fun _ => rfl) ?_
      simp only [spec_l10Has.l0]
      exact ev_neg (by omega) (ev_some _))
    (fun i r hi _ hp h => by
      refine Ev.step (fun _ => rfl) ?_
      simp only [spec_l10Has.l0, nm_rd]
      refine ev_pos (by omega) (ev_pos (by omega) (ev_neg hp ?_))
      rw [wrap_succ hi (by omega)]
      exact h)
    (fun i hi _ hp => by
      refine Ev.step (fun _ => rfl) ?_
      simp only [spec_l10Has.l0, nm_rd]
      exact ev_pos (by omega) (ev_pos (by omega) (ev_pos (Classical.not_not.1 hp) (ev_some _))))
  by_cases h : ∀ j, j < l.length → ¬ (nm l j).toList = a.toList
  · exact ⟨false, g1 h, fun _ => rfl⟩
  · refine ⟨true, g2 h, fun e => absurd (fun j hj => ?_) h⟩
    rw [e] at hj
    exact absurd hj (by simp)
theorem wrap_pred (d : Nat) (hd : d ≤ 1000) : wrap64 (((d + 1 : Nat) : Int) - 1) = (d : Int) := by rw [wrap_id (by omega) (by omega)]; omega
section
variable {s : List Int}
theorem f_l1 {Q : List Stp × Int × Int → Prop} (F : List Stp) (x4 x5 o : Int) (hF : F.length ≤ 100)
    (hn : ∀ (y : Stp) (a p h : Int), okS 10 y → 1 ≤ y.f1.length → curP s p → EvP (fun k => spec_l11DrawFlow.l0 k (F ++ [y]) a (wrap64 (x5 - 1)) s p h) Q) :
    ∀ (d : Nat) (rs : List ByteArray) (p h : Int), rs.length + d ≤ 10 → (1 ≤ rs.length ∨ 1 ≤ d) → (∀ z ∈ rs, z.size ≤ 100) → curP s p → EvP (fun k => spec_l11DrawFlow.l1 k F x4 x5 (d : Int) s p h o rs) Q := by
  intro d
  induction d with
  | zero =>
    intro rs p h hl h1 hz c
    refine evp_step (fun _ => rfl) ?_
    simp only [spec_l11DrawFlow.l1]
    obtain ⟨x, p1, g1, e1, b1, c1⟩ := d_below (h := h) 30000 (by omega) c
    exact evp_neg (by omega) (evp_pos (by omega) (evp_bind0 e1 (hn ⟨o, rs⟩ _ _ _ ⟨by show rs.length ≤ 10; omega, hz⟩ (by show 1 ≤ rs.length; omega) c1)))
  | succ d ih =>
    intro rs p h hl h1 hz c
    refine evp_step (fun _ => rfl) ?_
    simp only [spec_l11DrawFlow.l1]
    rw [wrap_pred d (by omega)]
    obtain ⟨x, p1, g1, e1, b1, c1⟩ := d_pick (h := h) [(⟨#[99, 108, 101, 114, 107]⟩ : ByteArray), (⟨#[104, 101, 97, 100]⟩ : ByteArray), (⟨#[99, 104, 105, 101, 102]⟩ : ByteArray), (⟨#[98, 111, 97, 114, 100]⟩ : ByteArray)] (by simp) (by simp) c
    have hx : x.size ≤ 100 := by
      simp only [List.mem_cons, List.not_mem_nil, or_false] at b1
      rcases b1 with rfl | rfl | rfl | rfl <;> decide
    refine evp_pos (by omega) (evp_bind0 e1 (evp_bind (has_any rs x (by omega)) (fun b hb => ?_)))
    by_cases hbt : b = true
    · refine evp_pos hbt (ih rs _ _ (by omega) (.inl ?_) hz c1)
      cases rs with
      | nil => exact absurd hbt (by simp [hb rfl])
      | cons _ _ => simp
    · refine evp_neg hbt (evp_pos (by omega) (ih _ _ _ (by simp only [List.length_append, List.length_cons, List.length_nil]; omega) (.inl (by simp)) (fun z hz2 => ?_) c1))
      rcases List.mem_append.1 hz2 with h2 | h2
      · exact hz z h2
      · rw [List.mem_singleton.1 h2]; exact hx
theorem f_l0 : ∀ (d : Nat) (F : List Stp) (x4 p h : Int), F.length + d ≤ 10 → (1 ≤ F.length ∨ 1 ≤ d) → (∀ y ∈ F, okS 10 y ∧ 1 ≤ y.f1.length) → curP s p →
    EvP (fun k => spec_l11DrawFlow.l0 k F x4 (d : Int) s p h) (fun r => okD r.1 ∧ curP s r.2.1) := by
  intro d
  induction d with
  | zero =>
    intro F x4 p h hl h1 hz c
    refine evp_step (fun _ => rfl) ?_
    simp only [spec_l11DrawFlow.l0]
    exact evp_neg (by omega) (evp_some ⟨⟨by show 1 ≤ F.length; omega, by show F.length ≤ 10; omega, hz⟩, c⟩)
  | succ d ih =>
    intro F x4 p h hl h1 hz c
    refine evp_step (fun _ => rfl) ?_
    simp only [spec_l11DrawFlow.l0]
    obtain ⟨x, p1, g1, e1, b1, c1⟩ := d_below (h := h) 3 (by omega) c
    have b2 := b1.2 (by omega)
    obtain ⟨n, hn⟩ : ∃ n : Nat, wrap64 (1 + x) = (n : Int) := ⟨(1 + x).toNat, by rw [wrap_id (by omega) (by omega)]; omega⟩
    have hn2 : 1 ≤ n ∧ n ≤ 3 := by rw [wrap_id (by omega) (by omega)] at hn; omega
    refine evp_pos (by omega) (evp_bind0 e1 ?_)
    show EvP (fun k => spec_l11DrawFlow.l1 k F x4 ((d + 1 : Nat) : Int) (wrap64 (1 + x)) s p1 g1 x4 []) _
    rw [hn]
    refine f_l1 F x4 _ x4 (by omega) (fun y a p' h' hy hy1 c' => ?_) n [] p1 g1 (by simp; omega) (.inr hn2.1) (by simp) c1
    rw [wrap_pred d (by omega)]
    refine ih _ _ _ _ (by simp only [List.length_append, List.length_cons, List.length_nil]; omega) (.inl (by simp)) (fun z hz2 => ?_) c'
    rcases List.mem_append.1 hz2 with h2 | h2
    · exact hz z h2
    · rw [List.mem_singleton.1 h2]; exact ⟨hy, hy1⟩
theorem f_draw (p h : Int) (c : curP s p) : EvP (fun k => spec_l11DrawFlow.f k s p h) (fun r => okD r.1 ∧ curP s r.2.1) := by
  unfold spec_l11DrawFlow.f
  obtain ⟨x, p1, g1, e1, b1, c1⟩ := d_below (h := h) 2 (by omega) c
  obtain ⟨x2, p2, g2, e2, b2, c2⟩ := d_below (h := g1) 5000 (by omega) c1
  obtain ⟨x3, p3, g3, e3, b3, c3⟩ := d_below (h := g2) 4 (by omega) c2
  have b4 := b3.2 (by omega)
  obtain ⟨n, hn⟩ : ∃ n : Nat, wrap64 (1 + x3) = (n : Int) := ⟨(1 + x3).toNat, by rw [wrap_id (by omega) (by omega)]; omega⟩
  have hn2 : 1 ≤ n ∧ n ≤ 4 := by rw [wrap_id (by omega) (by omega)] at hn; omega
  refine evp_bind0 e1 (evp_bind0 e2 (evp_bind0 e3 ?_))
  show EvP (fun k => spec_l11DrawFlow.l0 k [] (wrap64 (x * x2)) (wrap64 (1 + x3)) s p3 g3) _
  rw [hn]
  exact f_l0 n [] _ p3 g3 (by simp; omega) (.inr hn2.1) (by simp) c3
theorem d_anyName (p h : Int) (c : curP s p) : ∃ x p' h', spec_l1AnyName.f s p h = some (x, p', h') ∧ x.size ≤ 100 ∧ curP s p' := by
  unfold spec_l1AnyName.f
  obtain ⟨b, p1, g1, e1, c1⟩ := d_once (h := h) 20 (by omega) c
  rw [ob e1]
  by_cases hb : b = true
  · rw [if_pos hb]
    obtain ⟨x, p2, g2, e2, b2, c2⟩ := d_pick (h := g1) [(⟨#[]⟩ : ByteArray), (⟨#[97, 32, 98]⟩ : ByteArray), (⟨#[97, 98, 99, 100, 101, 102, 103, 104, 105, 106, 107, 108, 109, 110, 111, 112, 113, 114, 115, 116]⟩ : ByteArray), (⟨#[97, 98, 99, 100, 101, 102, 103, 104, 105, 106, 107, 108, 109, 110, 111, 112, 113, 114, 115, 116, 117]⟩ : ByteArray), (⟨#[255]⟩ : ByteArray), (⟨#[97, 44, 98]⟩ : ByteArray), (⟨#[195, 169]⟩ : ByteArray)] (by simp) (by simp) c1
    rw [ob e2]
    have hx : x.size ≤ 100 := by
      simp only [List.mem_cons, List.not_mem_nil, or_false] at b2
      rcases b2 with rfl | rfl | rfl | rfl | rfl | rfl | rfl <;> decide
    exact ⟨x, p2, g2, rfl, hx, c2⟩
  · rw [if_neg hb]
    unfold spec_l1DrawName.f
    obtain ⟨x, p2, g2, e2, b2, c2⟩ := d_pick (h := g1) [(⟨#[98, 97, 110, 107]⟩ : ByteArray), (⟨#[99, 97, 115, 104]⟩ : ByteArray), (⟨#[115, 97, 108, 101, 115]⟩ : ByteArray), (⟨#[115, 116, 111, 99, 107]⟩ : ByteArray), (⟨#[97]⟩ : ByteArray), (⟨#[98]⟩ : ByteArray), (⟨#[99, 45, 49]⟩ : ByteArray), (⟨#[100, 117, 101, 115]⟩ : ByteArray), (⟨#[116, 97, 120, 46, 100, 117, 101]⟩ : ByteArray), (⟨#[82, 50]⟩ : ByteArray), (⟨#[103, 111, 111, 100, 115]⟩ : ByteArray), (⟨#[119, 97, 103, 101, 115]⟩ : ByteArray), (⟨#[114, 101, 110, 116]⟩ : ByteArray), (⟨#[120, 95, 121]⟩ : ByteArray), (⟨#[112, 108, 97, 110, 116]⟩ : ByteArray)] (by simp) (by simp) c1
    rw [ob e2]
    have hx : x.size ≤ 100 := by
      simp only [List.mem_cons, List.not_mem_nil, or_false] at b2
      rcases b2 with rfl | rfl | rfl | rfl | rfl | rfl | rfl | rfl | rfl | rfl | rfl | rfl | rfl | rfl | rfl <;> decide
    exact ⟨x, p2, g2, rfl, hx, c2⟩
theorem mem_set2 {α : Type} {l : List α} {i : Nat} {a : α} {P : α → Prop} (h : ∀ x ∈ l, P x) (ha : P a) : ∀ x ∈ l.set i a, P x := fun x hx => by
  rcases List.mem_or_eq_of_mem_set hx with h2 | h2
  · exact h x h2
  · rw [h2]; exact ha
def goodO (g : Option (List Stp × Int × Int)) : Prop := ∃ r p' h', g = some (r, p', h') ∧ r.length ≤ 10 ∧ ∀ y ∈ r, okS 11 y
theorem go_pos {c : Prop} [Decidable c] {f g : Option (List Stp × Int × Int)} (h : c) (k : goodO f) : goodO (if c then f else g) := by rw [if_pos h]; exact k
theorem go_neg {c : Prop} [Decidable c] {f g : Option (List Stp × Int × Int)} (h : ¬ c) (k : goodO g) : goodO (if c then f else g) := by rw [if_neg h]; exact k
theorem go_bind {α : Type} {g : Option α} {f : α → Option (List Stp × Int × Int)} {a : α} (h : g = some a) (k : goodO (f a)) : goodO (g.bind f) := by rw [h]; exact k
theorem go_some {r : List Stp} {p' h' : Int} (h1 : r.length ≤ 10) (h2 : ∀ y ∈ r, okS 11 y) : goodO (some (r, p', h')) := ⟨_, _, _, rfl, h1, h2⟩
theorem f_spoil (F : List Stp) (hF : okD F) (p h : Int) (c : curP s p) : goodO (spec_l11SpoilFlow.f s p h F) := by
  have hF3 : ∀ y ∈ F, okS 11 y := fun y hy => ⟨by have := (hF.2.2 y hy).1.1; omega, (hF.2.2 y hy).1.2⟩
  have hl := hF.1
  have hl2 := hF.2.1
  unfold spec_l11SpoilFlow.f
  obtain ⟨b, p1, g1, e1, c1⟩ := d_once (h := h) 15 (by omega) c
  refine go_bind e1 ?_
  by_cases hb : b = true
  · obtain ⟨i, p2, g2, e2, b2, c2⟩ := d_below (h := g1) (F.length : Int) (by omega) c1
    have b3 := b2.2 (by omega)
    obtain ⟨q, p3, g3, e3, b4, c3⟩ := d_below (h := g2) 4 (by omega) c2
    obtain ⟨n, rfl⟩ := Int.eq_ofNat_of_zero_le b2.1
    have hn : n < F.length := by omega
    have hx : okS 10 (st F n) ∧ 1 ≤ (st F n).f1.length := hF.2.2 _ (mem_rd hn)
    have i1 : (0 : Int) ≤ ((n : Nat) : Int) := by omega
    have i2 : ((n : Nat) : Int) < (F.length : Int) := by omega
    have i3 : (0 : Int) < ((st F n).f1.length : Int) := by have := hx.2; omega
    have i4 : (st F n).f1.length < 8796093022208 := by have := hx.1.1; omega
    have hset : ∀ (y : Stp) (p' h' : Int), okS 11 y → goodO (some (F.set ((n : Nat) : Int).toNat y, p', h')) := fun y p' h' hy => go_some (by rw [List.length_set]; exact hl2) (mem_set2 hF3 hy)
    refine go_pos hb (go_bind e2 (go_bind e3 ?_))
    by_cases h0 : q = 0
    · obtain ⟨v, p4, g4, e4, _, c4⟩ := d_pickInt (h := g3) [(-1), 100000000000, 100000000001, 0] (by simp) (by simp) c3
      exact go_pos h0 (go_bind e4 (go_pos i1 (go_pos i2 (hset ⟨_, _⟩ _ _ ⟨by show (st F n).f1.length ≤ 11; have := hx.1.1; omega, hx.1.2⟩))))
    · refine go_neg h0 ?_
      by_cases h1 : q = 1
      · refine go_pos h1 (go_pos i1 (go_pos i2 (go_pos i3 (go_pos i4 (hset ⟨_, _⟩ _ _ ⟨?_, fun z hz => ?_⟩)))))
        · show ((st F n).f1 ++ [_]).length ≤ 11
          have := hx.1.1
          simp only [List.length_append, List.length_cons, List.length_nil]
          omega
        · rcases List.mem_append.1 hz with h2 | h2
          · exact hx.1.2 z h2
          · rw [List.mem_singleton.1 h2]
            exact hx.1.2 _ (mem_rd (i := 0) (by have := hx.2; omega))
      · refine go_neg h1 ?_
        by_cases h2 : q = 2
        · exact go_pos h2 (go_pos i1 (go_pos i2 (hset ⟨_, _⟩ _ _ ⟨by simp, by simp⟩)))
        · refine go_neg h2 ?_
          by_cases h3 : q = 3
          · obtain ⟨v, p4, g4, e4, b5, c4⟩ := d_anyName p3 g3 c3
            exact go_pos h3 (go_pos i1 (go_pos i2 (go_bind e4 (go_pos i3 (hset ⟨_, _⟩ _ _ ⟨by show ((st F n).f1.set _ _).length ≤ 11; rw [List.length_set]; have := hx.1.1; omega, mem_set2 hx.1.2 b5⟩)))))
          · exact go_neg h3 (go_some hl2 hF3)
  · exact go_neg hb (go_some hl2 hF3)
end
theorem drawShow (l : List Int) (hl : l.length ≤ 1048576) : EvP (fun k => spec_DrawShowFlow.f k l) (fun r => r.length ≤ 10 ∧ ∀ y ∈ r, okS 11 y) := by
  unfold spec_DrawShowFlow.f
  refine evp_bind (d_new l hl) (fun a ha => ?_)
  obtain ⟨ha1, ha2⟩ := ha
  rw [ha1]
  refine evp_bind (f_draw a.2.1 a.2.2 ha2) (fun b hb => ?_)
  obtain ⟨r, p', h', e, h1, h2⟩ := f_spoil b.1 hb.1 b.2.1 b.2.2 hb.2
  exact evp_bind0 e (evp_some ⟨h1, h2⟩)
end Go.Proofs.Ytfkakbpjddgmeaa.PFnFlowBack
