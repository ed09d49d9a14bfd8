import Derived.Test.YtjnmfadnkbflfaaONamesFnExactOutput
set_option linter.unusedVariables false
set_option linter.unusedSimpArgs false
namespace Go.Proofs.Ytjnmfadnkbflfaa.PFnExactOutput
open Go Go.RowKit Go.Proofs.YtjnmfadnkbflfaaW.PrintWords Go.Proofs.YtjnmfadnkbflfaaW.PrintLast Go.Proofs.Ytjnmfadnkbflfaa.MapWords Go.Proofs.Ytjnmfadnkbflfaa.EvWords
open Classical
abbrev Itm := S130
abbrev Prt := S149
theorem isDay_eq (a : Int) : impl_isDay.f a = some (decide (0 ≤ a ∧ a ≤ 40000)) := by
  unfold impl_isDay.f; rw [between_eq]; rfl
theorem l2Day_eq (a : Int) : spec_l2Day.f a = some (decide (0 ≤ a ∧ a ≤ 40000)) := by
  unfold spec_l2Day.f; rw [l1In_eq]; rfl
def itr {σ : Type} (g : Nat → σ → σ) : Nat → Nat → σ → σ
  | 0, _, s => s
  | d + 1, i, s => itr g d (i + 1) (g i s)
theorem ev_fold {β σ : Type} {F : Nat → σ → Int → Option β} {n : Nat} {g : Nat → σ → σ} {I : σ → Prop}
    (hgo : ∀ (i : Nat) (s : σ), i < n → I s → I (g i s) ∧ ∀ r, Ev (fun k => F k (g i s) ((i + 1 : Nat) : Int)) r → Ev (fun k => F k s (i : Int)) r)
    (s : σ) (hs : I s) : I (itr g n 0 s) ∧ ∀ r, Ev (fun k => F k (itr g n 0 s) (n : Int)) r → Ev (fun k => F k s 0) r := by
  have main : ∀ (d i : Nat) (s : σ), i + d = n → I s → I (itr g d i s) ∧ ∀ r, Ev (fun k => F k (itr g d i s) (n : Int)) r → Ev (fun k => F k s (i : Int)) r := by
    intro d
    induction d with
    | zero =>
      intro i s hi h
      have : i = n := by omega
      subst this
      exact ⟨h, fun r h => h⟩
    | succ d ih =>
      intro i s hi h
      obtain ⟨h1, h2⟩ := hgo i s (by omega) h
      obtain ⟨h3, h4⟩ := ih (i + 1) (g i s) (by omega) h1
      exact ⟨h3, fun r hr => h2 r (h4 r hr)⟩
  exact main n 0 s (by omega) hs
def partP (x : Prt) (i n : Int) : Prop := (i + 1 ≤ x.f0 ∧ x.f0 ≤ n - 1) ∧ (1 ≤ x.f1 ∧ x.f1 ≤ 1000000) ∧ (0 ≤ x.f2 ∧ x.f2 ≤ 100) ∧ (0 ≤ x.f3 ∧ x.f3 ≤ 40000) ∧ (0 ≤ x.f4 ∧ x.f4 ≤ 40000) ∧ x.f3 ≤ x.f4 ∧ 0 ≤ x.f5 ∧ x.f5 ≤ 9
theorem bB {c P : Prop} [Decidable c] [Decidable P] {f : Option Bool} (h : c → f = some (decide P)) (k : ¬ c → ¬ P) : ((some (decide c)).bind fun t => if t = true then f else some false) = some (decide P) := by
  by_cases hc : c
  · rw [decide_eq_true hc]; exact h hc
  · rw [decide_eq_false hc, decide_eq_false (k hc)]; rfl
theorem specPart (x : Prt) (i n : Int) (h : 0 ≤ i ∧ i ≤ 1000 ∧ 0 ≤ n ∧ n ≤ 1000) : spec_l17Part.f x.f0 x.f1 x.f2 x.f3 x.f4 x.f5 i n = some (decide (partP x i n)) := by
  unfold spec_l17Part.f
  rw [l1In_eq, wrap_id (x := i + 1) (by omega) (by omega), wrap_id (x := n - 1) (by omega) (by omega)]
  refine bB (fun h1 => ?_) (fun k g => k g.1)
  rw [l1In_eq]
  refine bB (fun h2 => ?_) (fun k g => k g.2.1)
  rw [l1In_eq]
  refine bB (fun h3 => ?_) (fun k g => k g.2.2.1)
  rw [l2Day_eq]
  refine bB (fun h4 => ?_) (fun k g => k g.2.2.2.1)
  rw [l2Day_eq]
  refine bB (fun h5 => ?_) (fun k g => k g.2.2.2.2.1)
  by_cases h6 : x.f3 ≤ x.f4
  · rw [if_pos h6, l1In_eq]
    show some _ = some _
    congr 1
    rw [decide_eq_decide]
    exact ⟨fun h7 => ⟨h1, h2, h3, h4, h5, h6, h7⟩, fun g => g.2.2.2.2.2.2⟩
  · rw [if_neg h6, decide_eq_false (fun g : partP x i n => h6 g.2.2.2.2.2.1)]
theorem implPart (x : Prt) (i n : Int) (b : Bool) (h : 0 ≤ i ∧ i ≤ 1000 ∧ 0 ≤ n ∧ n ≤ 1000) : impl_partOk.f x.f0 x.f1 x.f2 x.f3 x.f4 x.f5 i n b = some (decide (partP x i n ∧ (b = true → x.f2 = 0 ∧ x.f5 = 0))) := by
  unfold impl_partOk.f
  rw [between_eq, wrap_id (x := i + 1) (by omega) (by omega), wrap_id (x := n - 1) (by omega) (by omega)]
  refine bB (fun h1 => ?_) (fun k g => k g.1.1)
  rw [between_eq]
  refine bB (fun h2 => ?_) (fun k g => k g.1.2.1)
  rw [between_eq]
  refine bB (fun h3 => ?_) (fun k g => k g.1.2.2.1)
  rw [isDay_eq]
  refine bB (fun h4 => ?_) (fun k g => k g.1.2.2.2.1)
  rw [isDay_eq]
  refine bB (fun h5 => ?_) (fun k g => k g.1.2.2.2.2.1)
  by_cases h6 : x.f3 > x.f4
  · rw [if_pos h6, decide_eq_false (fun g : partP x i n ∧ _ => by have := g.1.2.2.2.2.2.1; omega)]
  · rw [if_neg h6, between_eq]
    refine bB (fun h7 => ?_) (fun k g => k g.1.2.2.2.2.2.2)
    have hp : partP x i n := ⟨h1, h2, h3, h4, h5, by omega, h7⟩
    cases b with
    | false => rw [decide_eq_true ⟨hp, fun h => by simp at h⟩]; rfl
    | true =>
      rw [if_pos rfl]
      by_cases h8 : x.f2 = 0
      · rw [if_pos h8]
        congr 1
        by_cases h9 : x.f5 = 0
        · rw [decide_eq_true ⟨hp, fun _ => ⟨h8, h9⟩⟩]; simp [h9]
        · rw [decide_eq_false (fun g : partP x i n ∧ _ => h9 (g.2 rfl).2)]; simp [h9]
      · rw [if_neg h8, decide_eq_false (fun g : partP x i n ∧ _ => h8 (g.2 rfl).1)]
def headP (y : Itm) : Prop := nameP y.f0 ∧ (1 ≤ y.f1 ∧ y.f1 ≤ 1000000) ∧ y.f3.length ≤ 30 ∧ y.f4.length ≤ 30 ∧ (y.f2 = true → y.f3.length ≠ 0 ∧ y.f4.length = 0)
def apartP (L : List Itm) (i : Nat) : Prop := ∀ j : Nat, j < i → (rd_T130 L (j : Nat)).f0 ≠ (rd_T130 L (i : Nat)).f0
def partsP (P : List Prt) (i n : Int) : Prop := ∀ j : Nat, j < P.length → partP (rd_T149 P (j : Nat)) i n
def alsoP (P : List Prt) (i n : Int) : Prop := ∀ j : Nat, j < P.length → partP (rd_T149 P (j : Nat)) i n ∧ ((rd_T149 P (j : Nat)).f2 = 0 ∧ (rd_T149 P (j : Nat)).f5 = 0)
def itemP (L : List Itm) (i : Nat) : Prop := headP (rd_T130 L i) ∧ apartP L i ∧ partsP (rd_T130 L i).f3 i L.length ∧ alsoP (rd_T130 L i).f4 i L.length
def itemsP (L : List Itm) : Prop := (1 ≤ L.length ∧ L.length ≤ 60) ∧ ∀ i : Nat, i < L.length → itemP L i
def lvS (i : Nat) (P : List Prt) (j : Nat) (o : List Int) : List Int := o.set ((rd_T149 P (j : Nat)).f0).toNat (if rd o (rd_T149 P (j : Nat)).f0 > wrap64 (rd o (i : Nat) + 1) then rd o (rd_T149 P (j : Nat)).f0 else wrap64 (rd o (i : Nat) + 1))
def lvR (L : List Itm) (i : Nat) (o : List Int) : List Int := itr (lvS i (rd_T130 L i).f3) (rd_T130 L i).f3.length 0 o
def lvs (L : List Itm) : List Int := itr (lvR L) L.length 0 (List.replicate L.length 0)
theorem itr_len {g : Nat → List Int → List Int} (h : ∀ i s, (g i s).length = s.length) : ∀ d i s, (itr g d i s).length = s.length
  | 0, _, _ => rfl
  | d + 1, i, s => by rw [itr, itr_len h d, h]
theorem lvs_len (L : List Itm) : (lvs L).length = L.length := by
  unfold lvs
  rw [itr_len (fun i s => by unfold lvR; rw [itr_len (fun j o => by unfold lvS; simp)]), List.length_replicate]
theorem max_eq (a b : Int) : spec_l9Max.f a b = some (if a > b then a else b) := by
  unfold spec_l9Max.f; split <;> rfl
theorem set_rd (o : List Int) (k : Int) (v : Int) (h : v = rd o k) : o.set k.toNat v = o := by
  subst h
  apply List.ext_getElem?
  intro j
  by_cases hj : k.toNat = j
  · subst hj
    by_cases hl : k.toNat < o.length
    · rw [List.getElem?_set_self hl, List.getElem?_eq_getElem hl]
      simp [rd, List.getD_eq_getElem?_getD, List.getElem?_eq_getElem hl]
    · rw [List.set_eq_of_length_le (by omega)]
  · rw [List.getElem?_set_ne hj]
theorem specLevels (L : List Itm) (hn : L.length ≤ 60) (hp : ∀ i : Nat, i < L.length → (rd_T130 L i).f3.length ≤ 30 ∧ partsP (rd_T130 L i).f3 i L.length) : Ev (fun k => spec_l17Levels.f k L) (lvs L) := by
  unfold spec_l17Levels.f
  refine ev_pos (by omega) (ev_pos (by omega) ?_)
  rw [Int.toNat_natCast]
  obtain ⟨_, h⟩ := ev_fold (F := fun k s x => spec_l17Levels.l0 k L s x) (n := L.length) (g := lvR L) (I := fun s => s.length = L.length) (fun i s hi hs => by
    obtain ⟨h30, hpi⟩ := hp i hi
    obtain ⟨a, b⟩ := ev_fold (F := fun k s x => spec_l17Levels.l1 k L s (i : Int) x) (n := (rd_T130 L i).f3.length) (g := lvS i (rd_T130 L i).f3) (I := fun s => s.length = L.length) (fun j o hj ho => by
      have hq := (hpi j hj).1
      refine ⟨by unfold lvS; simpa using ho, fun r hr => ?_⟩
      refine Ev.step (fun _ => rfl) ?_
      simp only [spec_l17Levels.l1]
      refine ev_pos (by omega) (ev_pos (by omega) (ev_pos (by omega) (ev_pos (by omega) (ev_pos (by omega) (ev_pos (by omega) (ev_pos (by omega) (ev_bind0 (max_eq _ _) ?_)))))))
      rw [wrap_succ hj (by omega)]
      exact hr) s hs
    refine ⟨a, fun r hr => ?_⟩
    refine Ev.step (fun _ => rfl) ?_
    simp only [spec_l17Levels.l0]
    refine ev_pos (by omega) (b r ?_)
    refine Ev.step (fun _ => rfl) ?_
    simp only [spec_l17Levels.l1]
    refine ev_pos (by omega) (ev_pos (by omega) (ev_neg (by omega) ?_))
    rw [wrap_succ hi (by omega)]
    exact hr) (List.replicate L.length 0) (by simp)
  refine h _ ?_
  refine Ev.step (fun _ => rfl) ?_
  simp only [spec_l17Levels.l0]
  exact ev_neg (by omega) (ev_some _)
theorem implLevels (L : List Itm) (hn : L.length ≤ 60) (hp : ∀ i : Nat, i < L.length → (rd_T130 L i).f3.length ≤ 30 ∧ partsP (rd_T130 L i).f3 i L.length) : Ev (fun k => impl_levels.f k L) (lvs L) := by
  unfold impl_levels.f
  refine ev_pos (by omega) (ev_pos (by omega) ?_)
  rw [Int.toNat_natCast]
  obtain ⟨_, h⟩ := ev_fold (F := fun k s x => impl_levels.l0 k s L L.length x) (n := L.length) (g := lvR L) (I := fun s => s.length = L.length) (fun i s hi hs => by
    obtain ⟨h30, hpi⟩ := hp i hi
    obtain ⟨a, b⟩ := ev_fold (F := fun k s x => impl_levels.l1 k s (i : Int) L L.length (i : Int) (rd_T130 L i).f3 (rd_T130 L i).f3.length x) (n := (rd_T130 L i).f3.length) (g := lvS i (rd_T130 L i).f3) (I := fun s => s.length = L.length) (fun j o hj ho => by
      have hq := (hpi j hj).1
      refine ⟨by unfold lvS; simpa using ho, fun r hr => ?_⟩
      refine Ev.step (fun _ => rfl) ?_
      simp only [impl_levels.l1]
      refine ev_pos (by omega) (ev_pos (by omega) (ev_pos (by omega) (ev_pos (by omega) (ev_pos (by omega) (ev_pos (by omega) (ev_pos (by omega) ?_))))))
      rw [wrap_succ hj (by omega)]
      unfold lvS at hr
      by_cases hc : rd o (rd_T149 (rd_T130 L i).f3 (j : Nat)).f0 < wrap64 (rd o (i : Nat) + 1)
      · refine ev_pos hc ?_
        rw [if_neg (by omega)] at hr
        exact hr
      · refine ev_neg hc ?_
        rw [set_rd _ _ _ (by split <;> omega)] at hr
        exact hr) s hs
    refine ⟨a, fun r hr => ?_⟩
    refine Ev.step (fun _ => rfl) ?_
    simp only [impl_levels.l0]
    refine ev_pos (by omega) (ev_pos (by omega) (ev_pos (by omega) (b r ?_)))
    refine Ev.step (fun _ => rfl) ?_
    simp only [impl_levels.l1]
    refine ev_neg (by omega) ?_
    rw [wrap_succ hi (by omega)]
    exact hr) (List.replicate L.length 0) (by simp)
  refine h _ ?_
  refine Ev.step (fun _ => rfl) ?_
  simp only [impl_levels.l0]
  exact ev_neg (by omega) (ev_some _)
def itemsM (L : List Itm) : Nat → List (ByteArray × Bool)
  | 0 => []
  | i + 1 => ((rd_T130 L (i : Nat)).f0, true) :: itemsM L i
theorem itemsM_len (L : List Itm) : ∀ i, (itemsM L i).length = i
  | 0 => rfl
  | i + 1 => by simp [itemsM, itemsM_len L i]
theorem itemsM_get (L : List Itm) (s : ByteArray) : ∀ i, mget false (itemsM L i) s = true ↔ ∃ j : Nat, j < i ∧ (rd_T130 L (j : Nat)).f0 = s
  | 0 => by simp [itemsM, mget]
  | i + 1 => by
    simp only [itemsM, mget]
    split
    · rename_i h
      exact ⟨fun _ => ⟨i, by omega, h⟩, fun _ => rfl⟩
    · rename_i h
      rw [itemsM_get L s i]
      exact ⟨fun ⟨j, hj, e⟩ => ⟨j, by omega, e⟩, fun ⟨j, hj, e⟩ => ⟨j, by
        by_cases hji : j = i
        · subst hji; exact absurd e h
        · omega, e⟩⟩
def flatP (l : List Int) : Prop := ∀ i : Nat, i < l.length → rd l i ≤ 20
section
variable (L : List Itm) (hs : ∀ i : Nat, i < L.length → (rd_T130 L (i : Nat)).f0.size ≤ 9223372036854775807) (hn : 1 ≤ L.length ∧ L.length ≤ 60)
theorem levels_of (h : ∀ i : Nat, i < L.length → itemP L i) : ∀ i : Nat, i < L.length → (rd_T130 L i).f3.length ≤ 30 ∧ partsP (rd_T130 L i).f3 i L.length := fun i hi => ⟨(h i hi).1.2.2.1, (h i hi).2.2.1⟩
include hs hn
omit hs in
theorem impl_parts (i : Nat) (hi : i < L.length) (m : List (ByteArray × Bool)) (P : List Prt) (hP : P.length ≤ 30) (a : ByteArray) (b : Int) (c : Bool) (d e : List Prt) (r : Bool)
    (hr : partsP P i L.length → Ev (fun k => impl_ItemsOk.l2 k L m i L L.length i e e.length 0) r) (hb : ¬ partsP P i L.length → r = false) :
    Ev (fun k => impl_ItemsOk.l1 k L m i L L.length i P P.length 0 a b c d e) r := by
  obtain ⟨g1, g2⟩ := ev_loop (F := fun k x => impl_ItemsOk.l1 k L m i L L.length i P P.length x a b c d e) (n := P.length) (p := fun j => partP (rd_T149 P (j : Nat)) i L.length) (R := r) (bad := false)
    (fun h => by
      refine Ev.step (fun _ => rfl) ?_
      simp only [impl_ItemsOk.l1]
      exact ev_neg (by omega) (hr h))
    (fun j r hj _ hp h => by
      refine Ev.step (fun _ => rfl) ?_
      simp only [impl_ItemsOk.l1]
      refine ev_pos (by omega) (ev_pos (by omega) (ev_pos (by omega) (ev_bind0 (implPart _ _ _ false (by omega)) ?_)))
      refine ev_pos (by simpa using hp) ?_
      rw [wrap_succ hj (by omega)]
      exact h)
    (fun j hj _ hp => by
      refine Ev.step (fun _ => rfl) ?_
      simp only [impl_ItemsOk.l1]
      refine ev_pos (by omega) (ev_pos (by omega) (ev_pos (by omega) (ev_bind0 (implPart _ _ _ false (by omega)) ?_)))
      exact ev_neg (by simpa using hp) (ev_some _))
  by_cases h : partsP P i L.length
  · exact g1 h
  · rw [hb h]; exact g2 h
omit hs in
theorem impl_also (i : Nat) (hi : i < L.length) (m : List (ByteArray × Bool)) (P : List Prt) (hP : P.length ≤ 30) (r : Bool)
    (hr : alsoP P i L.length → Ev (fun k => impl_ItemsOk.l0 k L m L L.length ((i + 1 : Nat) : Int)) r) (hb : ¬ alsoP P i L.length → r = false) :
    Ev (fun k => impl_ItemsOk.l2 k L m i L L.length i P P.length 0) r := by
  obtain ⟨g1, g2⟩ := ev_loop (F := fun k x => impl_ItemsOk.l2 k L m i L L.length i P P.length x) (n := P.length) (p := fun j => partP (rd_T149 P (j : Nat)) i L.length ∧ ((rd_T149 P (j : Nat)).f2 = 0 ∧ (rd_T149 P (j : Nat)).f5 = 0)) (R := r) (bad := false)
    (fun h => by
      refine Ev.step (fun _ => rfl) ?_
      simp only [impl_ItemsOk.l2]
      refine ev_neg (by omega) ?_
      rw [wrap_succ hi (by omega)]
      exact hr h)
    (fun j r hj _ hp h => by
      refine Ev.step (fun _ => rfl) ?_
      simp only [impl_ItemsOk.l2]
      refine ev_pos (by omega) (ev_pos (by omega) (ev_pos (by omega) (ev_bind0 (implPart _ _ _ true (by omega)) ?_)))
      refine ev_pos (decide_eq_true ⟨hp.1, fun _ => hp.2⟩) ?_
      rw [wrap_succ hj (by omega)]
      exact h)
    (fun j hj _ hp => by
      refine Ev.step (fun _ => rfl) ?_
      simp only [impl_ItemsOk.l2]
      refine ev_pos (by omega) (ev_pos (by omega) (ev_pos (by omega) (ev_bind0 (implPart _ _ _ true (by omega)) ?_)))
      refine ev_neg ?_ (ev_some _)
      rw [decide_eq_true_eq]
      exact fun g => hp ⟨g.1, g.2 rfl⟩)
  by_cases h : alsoP P i L.length
  · exact g1 h
  · rw [hb h]; exact g2 h
omit hs hn in
theorem impl_flat (l : List Int) (hl : l.length ≤ 100) : Ev (fun k => impl_ItemsOk.l3 k l l.length 0) (decide (flatP l)) := by
  refine ev_eq (ev_loopB (F := fun k x => impl_ItemsOk.l3 k l l.length x) (n := l.length) (p := fun i => rd l (i : Nat) ≤ 20) ?_ ?_ ?_) (decide_eq_decide.2 Iff.rfl)
  · intro _
    refine Ev.step (fun _ => rfl) ?_
    simp only [impl_ItemsOk.l3]
    exact ev_neg (by omega) (ev_some _)
  · intro i r hi _ hp h
    refine Ev.step (fun _ => rfl) ?_
    simp only [impl_ItemsOk.l3]
    refine ev_pos (by omega) (ev_pos (by omega) (ev_pos (by omega) (ev_neg (by omega) ?_)))
    rw [wrap_succ hi (by omega)]
    exact h
  · intro i hi _ hp
    refine Ev.step (fun _ => rfl) ?_
    simp only [impl_ItemsOk.l3]
    exact ev_pos (by omega) (ev_pos (by omega) (ev_pos (by omega) (ev_pos (by omega) (ev_some _))))
omit hs hn in
theorem spec_flat (l : List Int) (hl : l.length ≤ 100) : Ev (fun k => spec_ItemsOk.l4 k l.length l 0) (decide (flatP l)) := by
  refine ev_eq (ev_loopB (F := fun k x => spec_ItemsOk.l4 k l.length l x) (n := l.length) (p := fun i => rd l (i : Nat) ≤ 20) ?_ ?_ ?_) (decide_eq_decide.2 Iff.rfl)
  · intro _
    refine Ev.step (fun _ => rfl) ?_
    simp only [spec_ItemsOk.l4]
    exact ev_neg (by omega) (ev_some _)
  · intro i r hi _ hp h
    refine Ev.step (fun _ => rfl) ?_
    simp only [spec_ItemsOk.l4]
    refine ev_pos (by omega) (ev_pos (by omega) (ev_pos (by omega) (ev_neg (by omega) ?_)))
    rw [wrap_succ hi (by omega)]
    exact h
  · intro i hi _ hp
    refine Ev.step (fun _ => rfl) ?_
    simp only [spec_ItemsOk.l4]
    exact ev_pos (by omega) (ev_pos (by omega) (ev_pos (by omega) (ev_pos (by omega) (ev_some _))))
theorem impl_item (i : Nat) (hi : i < L.length) (r : Bool) (hr : itemP L i → Ev (fun k => impl_ItemsOk.l0 k L (itemsM L (i + 1)) L L.length ((i + 1 : Nat) : Int)) r) (hb : ¬ itemP L i → r = false) :
    Ev (fun k => impl_ItemsOk.l0 k L (itemsM L i) L L.length i) r := by
  have bad : ¬ itemP L i → Ev (fun _ => some false) r := fun h => by rw [hb h]; exact ev_some _
  have hj : ∀ b : Bool, (headP (rd_T130 L i) ∧ apartP L i → b = false) → (¬ (headP (rd_T130 L i) ∧ apartP L i) → b = true) → Ev (fun k => impl_ItemsOk.j2 k L (itemsM L i) i L L.length i b (rd_T130 L i).f0 (rd_T130 L i).f1 (rd_T130 L i).f2 (rd_T130 L i).f3 (rd_T130 L i).f4) r := by
    intro b h1 h2
    refine Ev.step (fun _ => rfl) ?_
    simp only [impl_ItemsOk.j2]
    by_cases h : headP (rd_T130 L i) ∧ apartP L i
    · rw [h1 h]
      refine ev_neg (by simp) (ev_pos (hs i hi) (ev_pos (by rw [itemsM_len]; omega) ?_))
      refine impl_parts L hn i hi _ _ h.1.2.2.1 _ _ _ _ _ r (fun hp => ?_) (fun hp => hb fun g => hp g.2.2.1)
      exact impl_also L hn i hi _ _ h.1.2.2.2.1 r (fun ha => hr ⟨h.1, h.2, hp, ha⟩) (fun ha => hb fun g => ha g.2.2.2)
    · rw [h2 h]
      exact ev_pos rfl (bad fun g => h ⟨g.1, g.2.1⟩)
  have jt : ¬ (headP (rd_T130 L i) ∧ apartP L i) → ∀ b : Bool, b = true → Ev (fun k => impl_ItemsOk.j2 k L (itemsM L i) i L L.length i b (rd_T130 L i).f0 (rd_T130 L i).f1 (rd_T130 L i).f2 (rd_T130 L i).f3 (rd_T130 L i).f4) r := fun h b e => hj b (fun g => absurd g h) (fun _ => e)
  refine Ev.step (fun _ => rfl) ?_
  simp only [impl_ItemsOk.l0]
  refine ev_pos (by omega) (ev_pos (by omega) (ev_pos (by omega) (ev_bind (implName _) ?_)))
  by_cases h1 : nameP (rd_T130 L i).f0
  · refine ev_pos (decide_eq_true h1) (ev_pos (hs i hi) ?_)
    by_cases h2 : ∃ j : Nat, j < i ∧ (rd_T130 L (j : Nat)).f0 = (rd_T130 L i).f0
    · refine ev_pos ((itemsM_get L _ i).2 h2) (jt ?_ _ rfl)
      obtain ⟨j, hj, e⟩ := h2
      exact fun g => g.2 j hj e
    · refine ev_neg (fun g => h2 ((itemsM_get L _ i).1 g)) (ev_bind0 (between_eq _ _ _) ?_)
      have hap : apartP L i := fun j hj e => h2 ⟨j, hj, e⟩
      by_cases h3 : 1 ≤ (rd_T130 L i).f1 ∧ (rd_T130 L i).f1 ≤ 1000000
      · refine ev_pos (decide_eq_true h3) ?_
        by_cases h4 : ((rd_T130 L i).f3.length : Int) > 30
        · exact ev_pos h4 (jt (fun g => by have := g.1.2.2.1; omega) _ rfl)
        · refine ev_neg h4 ?_
          by_cases h5 : ((rd_T130 L i).f4.length : Int) > 30
          · exact ev_pos h5 (jt (fun g => by have := g.1.2.2.2.1; omega) _ rfl)
          · refine ev_neg h5 ?_
            by_cases h6 : (rd_T130 L i).f2 = true
            · refine ev_pos h6 ?_
              by_cases h7 : ((rd_T130 L i).f3.length : Int) = 0
              · exact ev_pos h7 (jt (fun g => (g.1.2.2.2.2 h6).1 (by omega)) _ rfl)
              · refine ev_neg h7 (hj _ (fun g => ?_) (fun g => ?_))
                · rw [decide_eq_false_iff_not]; have := (g.1.2.2.2.2 h6).2; omega
                · rw [decide_eq_true_eq]
                  by_cases h8 : (rd_T130 L i).f4.length = 0
                  · exact absurd ⟨⟨h1, h3, by omega, by omega, fun _ => ⟨by omega, h8⟩⟩, hap⟩ g
                  · omega
            · refine ev_neg h6 (hj _ (fun _ => rfl) (fun g => ?_))
              exact absurd ⟨⟨h1, h3, by omega, by omega, fun h => absurd h h6⟩, hap⟩ g
      · exact ev_neg (by simpa using h3) (jt (fun g => h3 g.1.2.1) _ rfl)
  · exact ev_neg (by simpa using h1) (jt (fun g => h1 g.1.1) _ rfl)
end
theorem implItems (L : List Itm) (hs : ∀ i : Nat, i < L.length → (rd_T130 L (i : Nat)).f0.size ≤ 9223372036854775807) : Ev (fun k => impl_ItemsOk.f k L) (decide (itemsP L ∧ flatP (lvs L))) := by
  have bad : ¬ itemsP L → Ev (fun _ => some false) (decide (itemsP L ∧ flatP (lvs L))) := fun h => by rw [decide_eq_false (fun g => h g.1)]; exact ev_some _
  have hj : ∀ b : Bool, b = decide (¬ (1 ≤ L.length ∧ L.length ≤ 60)) → Ev (fun k => impl_ItemsOk.j0 k L b) (decide (itemsP L ∧ flatP (lvs L))) := by
    intro b hb
    refine Ev.step (fun _ => rfl) ?_
    simp only [impl_ItemsOk.j0]
    by_cases hn : 1 ≤ L.length ∧ L.length ≤ 60
    · rw [hb, decide_eq_false (fun g => g hn)]
      refine ev_neg (by simp) ?_
      obtain ⟨g1, g2⟩ := ev_loop (F := fun k x => impl_ItemsOk.l0 k L (itemsM L x.toNat) L L.length x) (n := L.length) (p := fun i => itemP L i) (R := decide (flatP (lvs L))) (bad := false)
        (fun h => by
          refine Ev.step (fun _ => rfl) ?_
          simp only [impl_ItemsOk.l0]
          refine ev_neg (by omega) (ev_bind (implLevels L hn.2 (levels_of L h)) ?_)
          exact impl_flat _ (by rw [lvs_len]; omega))
        (fun i r hi _ hp h => impl_item L hs hn i hi r (fun _ => h) (fun g => absurd hp g))
        (fun i hi _ hp => impl_item L hs hn i hi false (fun g => absurd g hp) (fun _ => rfl))
      by_cases h : ∀ i : Nat, i < L.length → itemP L i
      · refine ev_eq (g1 h) ?_
        rw [decide_eq_decide]
        exact ⟨fun g => ⟨⟨hn, h⟩, g⟩, fun g => g.2⟩
      · refine ev_eq (g2 h) ?_
        symm; rw [decide_eq_false_iff_not]; exact fun g => h g.1.2
    · rw [hb, decide_eq_true hn]
      exact ev_pos rfl (bad fun g => hn g.1)
  unfold impl_ItemsOk.f
  by_cases h1 : (L.length : Int) < 1
  · refine ev_pos h1 (hj true ?_)
    symm; rw [decide_eq_true_eq]; omega
  · refine ev_neg h1 (hj _ ?_)
    rw [decide_eq_decide]; omega
section
variable (L : List Itm) (hs : ∀ i : Nat, i < L.length → (rd_T130 L (i : Nat)).f0.size ≤ 9223372036854775807) (hn : 1 ≤ L.length ∧ L.length ≤ 60)
include hn
theorem spec_also (i : Nat) (hi : i < L.length) (P : List Prt) (hP : P.length ≤ 30) (a : ByteArray) (b : Int) (c : Bool) (d : List Prt) (r : Bool)
    (hr : alsoP P i L.length → Ev (fun k => spec_ItemsOk.l0 k L L.length ((i + 1 : Nat) : Int)) r) (hb : ¬ alsoP P i L.length → r = false) :
    Ev (fun k => spec_ItemsOk.l3 k L L.length i 0 a b c d P) r := by
  obtain ⟨g1, g2⟩ := ev_loop (F := fun k x => spec_ItemsOk.l3 k L L.length i x a b c d P) (n := P.length) (p := fun j => partP (rd_T149 P (j : Nat)) i L.length ∧ ((rd_T149 P (j : Nat)).f2 = 0 ∧ (rd_T149 P (j : Nat)).f5 = 0)) (R := r) (bad := false)
    (fun h => by
      refine Ev.step (fun _ => rfl) ?_
      simp only [spec_ItemsOk.l3]
      refine ev_neg (by omega) ?_
      rw [wrap_succ hi (by omega)]
      exact hr h)
    (fun j r hj _ hp h => by
      refine Ev.step (fun _ => rfl) ?_
      simp only [spec_ItemsOk.l3]
      refine ev_pos (by omega) (ev_pos (by omega) (ev_bind0 (specPart _ _ _ (by omega)) ?_))
      refine ev_pos (decide_eq_true hp.1) (ev_pos hp.2.1 (ev_pos hp.2.2 ?_))
      rw [wrap_succ hj (by omega)]
      exact h)
    (fun j hj _ hp => by
      refine Ev.step (fun _ => rfl) ?_
      simp only [spec_ItemsOk.l3]
      refine ev_pos (by omega) (ev_pos (by omega) (ev_bind0 (specPart _ _ _ (by omega)) ?_))
      by_cases h1 : partP (rd_T149 P (j : Nat)) i L.length
      · refine ev_pos (decide_eq_true h1) ?_
        by_cases h2 : (rd_T149 P (j : Nat)).f2 = 0
        · exact ev_pos h2 (ev_neg (fun h3 => hp ⟨h1, h2, h3⟩) (ev_some _))
        · exact ev_neg h2 (ev_some _)
      · exact ev_neg (by simpa using h1) (ev_some _))
  by_cases h : alsoP P i L.length
  · exact g1 h
  · rw [hb h]; exact g2 h
theorem spec_parts (i : Nat) (hi : i < L.length) (P : List Prt) (hP : P.length ≤ 30) (a : ByteArray) (b : Int) (c : Bool) (e : List Prt) (r : Bool)
    (hr : partsP P i L.length → Ev (fun k => spec_ItemsOk.l3 k L L.length i 0 a b c P e) r) (hb : ¬ partsP P i L.length → r = false) :
    Ev (fun k => spec_ItemsOk.l2 k L L.length i 0 a b c P e) r := by
  obtain ⟨g1, g2⟩ := ev_loop (F := fun k x => spec_ItemsOk.l2 k L L.length i x a b c P e) (n := P.length) (p := fun j => partP (rd_T149 P (j : Nat)) i L.length) (R := r) (bad := false)
    (fun h => by
      refine Ev.step (fun _ => rfl) ?_
      simp only [spec_ItemsOk.l2]
      exact ev_neg (by omega) (hr h))
    (fun j r hj _ hp h => by
      refine Ev.step (fun _ => rfl) ?_
      simp only [spec_ItemsOk.l2]
      refine ev_pos (by omega) (ev_pos (by omega) (ev_bind0 (specPart _ _ _ (by omega)) ?_))
      refine ev_pos (decide_eq_true hp) ?_
      rw [wrap_succ hj (by omega)]
      exact h)
    (fun j hj _ hp => by
      refine Ev.step (fun _ => rfl) ?_
      simp only [spec_ItemsOk.l2]
      refine ev_pos (by omega) (ev_pos (by omega) (ev_bind0 (specPart _ _ _ (by omega)) ?_))
      exact ev_neg (by simpa using hp) (ev_some _))
  by_cases h : partsP P i L.length
  · exact g1 h
  · rw [hb h]; exact g2 h
theorem spec_apart (i : Nat) (hi : i < L.length) (b : Int) (c : Bool) (d e : List Prt) (r : Bool)
    (hr : apartP L i → Ev (fun k => spec_ItemsOk.l2 k L L.length i 0 (rd_T130 L i).f0 b c d e) r) (hb : ¬ apartP L i → r = false) :
    Ev (fun k => spec_ItemsOk.l1 k L L.length i 0 (rd_T130 L i).f0 b c d e) r := by
  obtain ⟨g1, g2⟩ := ev_loop (F := fun k x => spec_ItemsOk.l1 k L L.length i x (rd_T130 L i).f0 b c d e) (n := i) (p := fun j => (rd_T130 L (j : Nat)).f0 ≠ (rd_T130 L i).f0) (R := r) (bad := false)
    (fun h => by
      refine Ev.step (fun _ => rfl) ?_
      simp only [spec_ItemsOk.l1]
      exact ev_neg (by omega) (hr h))
    (fun j r hj _ hp h => by
      refine Ev.step (fun _ => rfl) ?_
      simp only [spec_ItemsOk.l1, str_iff]
      refine ev_pos (by omega) (ev_pos (by omega) (ev_pos (by omega) (ev_neg hp ?_)))
      rw [wrap_succ hj (by omega)]
      exact h)
    (fun j hj _ hp => by
      refine Ev.step (fun _ => rfl) ?_
      simp only [spec_ItemsOk.l1, str_iff]
      exact ev_pos (by omega) (ev_pos (by omega) (ev_pos (by omega) (ev_pos (by simpa using hp) (ev_some _)))))
  by_cases h : apartP L i
  · exact g1 h
  · rw [hb h]; exact g2 h
include hs
theorem spec_item (i : Nat) (hi : i < L.length) (r : Bool) (hr : itemP L i → Ev (fun k => spec_ItemsOk.l0 k L L.length ((i + 1 : Nat) : Int)) r) (hb : ¬ itemP L i → r = false) :
    Ev (fun k => spec_ItemsOk.l0 k L L.length i) r := by
  have bad : ¬ itemP L i → Ev (fun _ => some false) r := fun h => by rw [hb h]; exact ev_some _
  have hj : ∀ b : Bool, (headP (rd_T130 L i) → b = false) → (¬ headP (rd_T130 L i) → b = true) → Ev (fun k => spec_ItemsOk.j1 k L L.length i b (rd_T130 L i).f0 (rd_T130 L i).f1 (rd_T130 L i).f2 (rd_T130 L i).f3 (rd_T130 L i).f4) r := by
    intro b h1 h2
    refine Ev.step (fun _ => rfl) ?_
    simp only [spec_ItemsOk.j1]
    by_cases h : headP (rd_T130 L i)
    · rw [h1 h]
      refine ev_neg (by simp) ?_
      refine spec_apart L hn i hi _ _ _ _ r (fun hap => ?_) (fun hp => hb fun g => hp g.2.1)
      refine spec_parts L hn i hi _ h.2.2.1 _ _ _ _ r (fun hp => ?_) (fun hp => hb fun g => hp g.2.2.1)
      exact spec_also L hn i hi _ h.2.2.2.1 _ _ _ _ r (fun ha => hr ⟨h, hap, hp, ha⟩) (fun ha => hb fun g => ha g.2.2.2)
    · rw [h2 h]
      exact ev_pos rfl (bad fun g => h g.1)
  have jt : ¬ headP (rd_T130 L i) → ∀ b : Bool, b = true → Ev (fun k => spec_ItemsOk.j1 k L L.length i b (rd_T130 L i).f0 (rd_T130 L i).f1 (rd_T130 L i).f2 (rd_T130 L i).f3 (rd_T130 L i).f4) r := fun h b e => hj b (fun g => absurd g h) (fun _ => e)
  refine Ev.step (fun _ => rfl) ?_
  simp only [spec_ItemsOk.l0]
  refine ev_pos (by omega) (ev_pos (by omega) (ev_pos (by omega) (ev_bind (specName _ (hs i hi)) ?_)))
  by_cases h1 : nameP (rd_T130 L i).f0
  · refine ev_pos (decide_eq_true h1) (ev_bind0 (l1In_eq _ _ _) ?_)
    by_cases h3 : 1 ≤ (rd_T130 L i).f1 ∧ (rd_T130 L i).f1 ≤ 1000000
    · refine ev_pos (decide_eq_true h3) ?_
      by_cases h4 : ((rd_T130 L i).f3.length : Int) > 30
      · exact ev_pos h4 (jt (fun g => by have := g.2.2.1; omega) _ rfl)
      · refine ev_neg h4 ?_
        by_cases h5 : ((rd_T130 L i).f4.length : Int) > 30
        · exact ev_pos h5 (jt (fun g => by have := g.2.2.2.1; omega) _ rfl)
        · refine ev_neg h5 ?_
          by_cases h6 : (rd_T130 L i).f2 = true
          · refine ev_pos h6 ?_
            by_cases h7 : ((rd_T130 L i).f3.length : Int) = 0
            · exact ev_pos h7 (jt (fun g => (g.2.2.2.2 h6).1 (by omega)) _ rfl)
            · refine ev_neg h7 (hj _ (fun g => ?_) (fun g => ?_))
              · rw [decide_eq_false_iff_not]; have := (g.2.2.2.2 h6).2; omega
              · rw [decide_eq_true_eq]
                by_cases h8 : (rd_T130 L i).f4.length = 0
                · exact absurd ⟨h1, h3, by omega, by omega, fun _ => ⟨by omega, h8⟩⟩ g
                · omega
          · refine ev_neg h6 (hj _ (fun _ => rfl) (fun g => ?_))
            exact absurd ⟨h1, h3, by omega, by omega, fun h => absurd h h6⟩ g
    · exact ev_neg (by simpa using h3) (jt (fun g => h3 g.2.1) _ rfl)
  · exact ev_neg (by simpa using h1) (jt (fun g => h1 g.1) _ rfl)
end
theorem specItems (L : List Itm) (hs : ∀ i : Nat, i < L.length → (rd_T130 L (i : Nat)).f0.size ≤ 9223372036854775807) : Ev (fun k => spec_ItemsOk.f k L) (decide (itemsP L ∧ flatP (lvs L))) := by
  unfold spec_ItemsOk.f
  refine ev_bind0 (l1In_eq _ _ _) ?_
  by_cases h0 : 1 ≤ (L.length : Int) ∧ (L.length : Int) ≤ 60
  · have hn : 1 ≤ L.length ∧ L.length ≤ 60 := by omega
    refine ev_pos (decide_eq_true h0) ?_
    obtain ⟨g1, g2⟩ := ev_loop (F := fun k x => spec_ItemsOk.l0 k L L.length x) (n := L.length) (p := fun i => itemP L i) (R := decide (flatP (lvs L))) (bad := false)
      (fun h => by
        refine Ev.step (fun _ => rfl) ?_
        simp only [spec_ItemsOk.l0]
        refine ev_neg (by omega) (ev_bind (specLevels L hn.2 (levels_of L h)) ?_)
        have := spec_flat (lvs L) (by rw [lvs_len]; omega)
        rw [lvs_len] at this
        exact this)
      (fun i r hi _ hp h => spec_item L hs hn i hi r (fun _ => h) (fun g => absurd hp g))
      (fun i hi _ hp => spec_item L hs hn i hi false (fun g => absurd g hp) (fun _ => rfl))
    by_cases h : ∀ i : Nat, i < L.length → itemP L i
    · refine ev_eq (g1 h) ?_
      rw [decide_eq_decide]
      exact ⟨fun g => ⟨⟨hn, h⟩, g⟩, fun g => g.2⟩
    · refine ev_eq (g2 h) ?_
      symm; rw [decide_eq_false_iff_not]; exact fun g => h g.1.2
  · refine ev_neg (by simpa using h0) (ev_eq (ev_some _) ?_)
    symm; rw [decide_eq_false_iff_not]; exact fun g => h0 (by have := g.1.1; omega)
end Go.Proofs.Ytjnmfadnkbflfaa.PFnExactOutput
