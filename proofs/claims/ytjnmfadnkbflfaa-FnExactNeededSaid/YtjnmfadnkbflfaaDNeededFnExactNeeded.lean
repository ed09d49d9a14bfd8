import Derived.Test.YtjnmfadnkbflfaaDShowFnExactNeeded
set_option linter.unusedVariables false
set_option linter.unusedSimpArgs false
namespace Go.Proofs.Ytjnmfadnkbflfaa.PFnExactNeeded
open Go Go.RowKit Go.Proofs.YtjnmfadnkbflfaaW.PrintWords Go.Proofs.YtjnmfadnkbflfaaW.PrintLast Go.Proofs.Ytjnmfadnkbflfaa.MapWords Go.Proofs.Ytjnmfadnkbflfaa.IterWords Go.Proofs.Ytjnmfadnkbflfaa.EvWords
open Classical
def itr {σ : Type} (g : Nat → σ → σ) : Nat → Nat → σ → σ
  | 0, _, s => s
  | d + 1, i, s => itr g d (i + 1) (g i s)
theorem ev_foldI {β σ : Type} {F : Nat → σ → Int → Option β} {n : Nat} {g : Nat → σ → σ} {I : Nat → σ → Prop}
    (hgo : ∀ (i : Nat) (s : σ), i < n → I i s → I (i + 1) (g i s) ∧ ∀ r, Ev (fun k => F k (g i s) ((i + 1 : Nat) : Int)) r → Ev (fun k => F k s (i : Int)) r)
    (s : σ) (hs : I 0 s) : I n (itr g n 0 s) ∧ ∀ r, Ev (fun k => F k (itr g n 0 s) (n : Int)) r → Ev (fun k => F k s 0) r := by
  have main : ∀ (d i : Nat) (s : σ), i + d = n → I i s → I n (itr g d i s) ∧ ∀ r, Ev (fun k => F k (itr g d i s) (n : Int)) r → Ev (fun k => F k s (i : Int)) r := by
    intro d
    induction d with
    | zero =>
      intro i s hi h
      have : i = n := by omega
      subst this
      exact ⟨h, fun r h => h⟩
    | succ d ih =>
      intro i s hi h
      obtain ⟨h1, h2⟩ := hgo i s (by omega) h
      obtain ⟨h3, h4⟩ := ih (i + 1) (g i s) (by omega) h1
      exact ⟨h3, fun r hr => h2 r (h4 r hr)⟩
  exact main n 0 s (by omega) hs
noncomputable def ndS (P : List ByteArray) (j : Nat) (o : List ByteArray) : List ByteArray := if nm P j ∈ o then o else o ++ [nm P j]
noncomputable def ndR (F : List Stp) (a : Int) (i : Nat) (o : List ByteArray) : List ByteArray := if (st F i).f0 < a then itr (ndS (st F i).f1) (st F i).f1.length 0 o else o
noncomputable def ndd (F : List Stp) (a : Int) : List ByteArray := itr (ndR F a) F.length 0 []
theorem nds_len (P : List ByteArray) (j : Nat) (o : List ByteArray) : (ndS P j o).length ≤ o.length + 1 := by
  unfold ndS; split
  · omega
  · simp
theorem has_mem (o : List ByteArray) (s : ByteArray) : (∃ j : Nat, j < o.length ∧ nm o j = s) ↔ s ∈ o := by
  constructor
  · rintro ⟨j, hj, rfl⟩; exact mem_rd hj
  · intro h
    obtain ⟨j, hj, e⟩ := List.getElem_of_mem h
    refine ⟨j, hj, ?_⟩
    unfold nm
    rw [List.getD_eq_getElem?_getD, List.getElem?_eq_getElem hj]
    exact e
theorem specHasM (o : List ByteArray) (s : ByteArray) (hl : o.length ≤ 4000) : Ev (fun k => spec_l10Has.f k o s) (decide (s ∈ o)) :=
  ev_eq (specHas o s hl) (decide_eq_decide.2 (has_mem o s))
def mof (o : List ByteArray) : List (ByteArray × Bool) := o.reverse.map fun r => (r, true)
theorem mof_len (o : List ByteArray) : (mof o).length = o.length := by simp [mof]
theorem mof_app (o : List ByteArray) (s : ByteArray) : mof (o ++ [s]) = (s, true) :: mof o := by simp [mof]
theorem mget_all (l : List ByteArray) (s : ByteArray) : mget false (l.map fun r => (r, true)) s = true ↔ s ∈ l := by
  induction l with
  | nil => simp [mget]
  | cons x l ih =>
    simp only [List.map_cons, mget, List.mem_cons]
    split
    · rename_i h; exact ⟨fun _ => .inl h.symm, fun _ => rfl⟩
    · rename_i h
      rw [ih]
      exact ⟨.inr, fun g => g.resolve_left (fun e => h e.symm)⟩
theorem mof_get (o : List ByteArray) (s : ByteArray) : mget false (mof o) s = true ↔ s ∈ o := by
  unfold mof
  rw [mget_all]; simp
section
variable (F : List Stp) (a : Int) (hF : F.length ≤ 20) (hP : ∀ i : Nat, i < F.length → (st F i).f1.length ≤ 8)
include hF hP
theorem spec_row (i : Nat) (hi : i < F.length) (o : List ByteArray) (ho : o.length ≤ 8 * i) : (ndR F a i o).length ≤ 8 * (i + 1) ∧ ∀ r, Ev (fun k => spec_Needed.l0 k F a (ndR F a i o) ((i + 1 : Nat) : Int)) r → Ev (fun k => spec_Needed.l0 k F a o (i : Int)) r := by
  have h8 := hP i hi
  have jf : ∀ (o : List ByteArray) (j : Int) (r : List ByteArray), Ev (fun k => spec_Needed.l0 k F a o ((i + 1 : Nat) : Int)) r → ∀ b : Bool, b = false → Ev (fun k => spec_Needed.j3 k F a o (i : Int) j b) r := fun o j r hr b hb => by
    refine Ev.step (fun _ => rfl) ?_
    simp only [spec_Needed.j3]
    refine ev_neg (by simp [hb]) ?_
    rw [wrap_succ hi (by omega)]
    exact hr
  by_cases hc : (st F i).f0 < a
  · obtain ⟨g1, g2⟩ := ev_foldI (F := fun k s x => spec_Needed.l1 k F a s (i : Int) x) (n := (st F i).f1.length) (g := ndS (st F i).f1) (I := fun j s => s.length ≤ 8 * i + j) (fun j s hj hs => by
      refine ⟨by have := nds_len (st F i).f1 j s; omega, fun r hr => ?_⟩
      refine Ev.step (fun _ => rfl) ?_
      simp only [spec_Needed.l1]
      refine ev_pos (by omega) (ev_pos (by omega) (ev_pos (show (j : Int) < ((st F i).f1.length : Int) by omega) ?_))
      have hb : decide ((rd_T119 F (i : Int)).f0 < a) = true := decide_eq_true hc
      rw [hb]
      refine Ev.step (fun _ => rfl) ?_
      simp only [spec_Needed.j3, nm_rd]
      refine ev_pos trivial (ev_pos (by omega) (ev_pos (by omega) (ev_pos (by omega) (ev_pos (show (j : Int) < ((st F i).f1.length : Int) by omega) (ev_bind (specHasM s (nm (st F i).f1 j) (by omega)) ?_)))))
      rw [wrap_succ hj (by omega)]
      unfold ndS at hr
      by_cases hm : nm (st F i).f1 j ∈ s
      · rw [if_pos hm] at hr
        exact ev_pos (decide_eq_true hm) hr
      · rw [if_neg hm] at hr
        exact ev_neg (by rw [decide_eq_true_eq]; exact hm) (ev_pos (by omega) hr)) o (by omega)
    have e : ndR F a i o = itr (ndS (st F i).f1) (st F i).f1.length 0 o := if_pos hc
    rw [e]
    refine ⟨by omega, fun r hr => ?_⟩
    refine Ev.step (fun _ => rfl) ?_
    simp only [spec_Needed.l0]
    refine ev_pos (by omega) (g2 r ?_)
    refine Ev.step (fun _ => rfl) ?_
    simp only [spec_Needed.l1]
    exact ev_pos (by omega) (ev_pos (by omega) (ev_neg (show ¬ ((st F i).f1.length : Int) < ((st F i).f1.length : Int) by omega) (jf _ _ _ hr _ rfl)))
  · have e : ndR F a i o = o := if_neg hc
    rw [e]
    refine ⟨by omega, fun r hr => ?_⟩
    refine Ev.step (fun _ => rfl) ?_
    simp only [spec_Needed.l0]
    refine ev_pos (by omega) ?_
    refine Ev.step (fun _ => rfl) ?_
    simp only [spec_Needed.l1]
    refine ev_pos (by omega) (ev_pos (by omega) ?_)
    have hb : decide ((rd_T119 F (i : Int)).f0 < a) = false := decide_eq_false hc
    rw [hb]
    by_cases h0 : (0 : Int) < ((rd_T119 F (i : Int)).f1.length : Int)
    · exact ev_pos h0 (jf _ _ _ hr _ rfl)
    · exact ev_neg h0 (jf _ _ _ hr _ rfl)
theorem impl_row (hs : ∀ i : Nat, i < F.length → ∀ y ∈ (st F i).f1, y.size ≤ 1048576) (i : Nat) (hi : i < F.length) (o : List ByteArray) (ho : o.length ≤ 8 * i) : (ndR F a i o).length ≤ 8 * (i + 1) ∧ ∀ r, Ev (fun k => impl_Needed.l0 k a (ndR F a i o) (mof (ndR F a i o)) F F.length ((i + 1 : Nat) : Int)) r → Ev (fun k => impl_Needed.l0 k a o (mof o) F F.length (i : Int)) r := by
  have h8 := hP i hi
  obtain ⟨g1, g2⟩ := ev_foldI (F := fun k s x => impl_Needed.l1 k a s (mof s) F F.length (i : Int) (st F i).f1 (st F i).f1.length x (st F i).f0 (st F i).f1) (n := (st F i).f1.length) (g := fun j s => if (st F i).f0 < a then ndS (st F i).f1 j s else s) (I := fun j s => s.length ≤ 8 * i + j) (fun j s hj hs' => by
    have hz : (nm (st F i).f1 j).size ≤ 9223372036854775807 := by have := nm_sz (hs i hi) j hj; omega
    refine ⟨by have := nds_len (st F i).f1 j s; split <;> omega, fun r hr => ?_⟩
    refine Ev.step (fun _ => rfl) ?_
    simp only [impl_Needed.l1, nm_rd]
    refine ev_pos (by omega) (ev_pos (by omega) (ev_pos (by omega) ?_))
    rw [wrap_succ hj (by omega)]
    by_cases hc : (st F i).f0 < a
    · rw [if_pos hc] at hr
      unfold ndS at hr
      refine ev_pos hc (ev_pos hz ?_)
      by_cases hm : nm (st F i).f1 j ∈ s
      · rw [if_pos hm] at hr
        exact ev_pos ((mof_get _ _).2 hm) hr
      · rw [if_neg hm, mof_app] at hr
        exact ev_neg (fun g => hm ((mof_get _ _).1 g)) (ev_pos (by rw [mof_len]; omega) (ev_pos (by omega) hr))
    · rw [if_neg hc] at hr
      exact ev_neg hc hr) o (by omega)
  have e : ndR F a i o = itr (fun j s => if (st F i).f0 < a then ndS (st F i).f1 j s else s) (st F i).f1.length 0 o := by
    unfold ndR
    by_cases hc : (st F i).f0 < a
    · simp only [if_pos hc]
    · simp only [if_neg hc]
      have : ∀ (d i : Nat), itr (fun _ s => s) d i o = o := by
        intro d
        induction d with
        | zero => intro i; rfl
        | succ d ih => intro i; exact ih (i + 1)
      rw [this]
  rw [e]
  refine ⟨by omega, fun r hr => ?_⟩
  refine Ev.step (fun _ => rfl) ?_
  simp only [impl_Needed.l0]
  refine ev_pos (by omega) (ev_pos (by omega) (ev_pos (by omega) (g2 r ?_)))
  refine Ev.step (fun _ => rfl) ?_
  simp only [impl_Needed.l1]
  refine ev_neg (by omega) ?_
  rw [wrap_succ hi (by omega)]
  exact hr
end
noncomputable def needs (F : List Stp) (a : Int) : List ByteArray := if (B (if flowP F ∧ (txt F).length ≤ 2000 then txt F else [])).toList ≠ [] ∧ amP a then ndd F a else []
theorem flow_of {F : List Stp} (h : (B (if flowP F ∧ (txt F).length ≤ 2000 then txt F else [])).toList ≠ []) : F.length ≤ 20 ∧ ∀ i : Nat, i < F.length → (st F i).f1.length ≤ 8 := by
  by_cases hp : flowP F ∧ (txt F).length ≤ 2000
  · exact ⟨hp.1.1, fun i hi => (hp.1.2 i hi).1.2.1.2⟩
  · rw [if_neg hp] at h
    exact absurd (by simp [B, ByteArray.toList_eq]) h
theorem specNeeded (F : List Stp) (a : Int) (hs : ∀ x ∈ F, x.f1.length ≤ 1048576 ∧ ∀ y ∈ x.f1, y.size ≤ 1048576) (hl : F.length ≤ 1048576) : Ev (fun k => spec_Needed.f k F a) (needs F a) ∧ (needs F a).length ≤ 160 := by
  unfold spec_Needed.f needs
  have hsh := specShow F (fun x hx => (hs x hx).2) hl
  have hof := @flow_of F
  generalize B (if flowP F ∧ (txt F).length ≤ 2000 then txt F else []) = T at hsh hof
  have hj : ∀ b : Bool, b = true → Ev (fun k => spec_Needed.j0 k F a ([] : List ByteArray) b) [] := fun b hb => by
    refine Ev.step (fun _ => rfl) ?_
    simp only [spec_Needed.j0]
    exact ev_pos hb (ev_some _)
  by_cases h1 : T.toList = []
  · rw [if_neg (fun g => g.1 h1)]
    exact ⟨ev_bind0 rfl (ev_bind hsh (ev_pos h1 (hj _ rfl))), by simp⟩
  · by_cases h2 : amP a
    · rw [if_pos ⟨h1, h2⟩]
      obtain ⟨h3, h4⟩ := hof h1
      obtain ⟨g1, g2⟩ := ev_foldI (F := fun k s x => spec_Needed.l0 k F a s x) (n := F.length) (g := ndR F a) (I := fun i s => s.length ≤ 8 * i) (fun i s hi hs => spec_row F a h3 h4 i hi s hs) [] (by simp)
      refine ⟨ev_bind0 rfl (ev_bind hsh (ev_neg h1 (ev_bind0 (l1Amount_eq a) ?_))), by unfold ndd; omega⟩
      rw [decide_eq_true h2]
      refine Ev.step (fun _ => rfl) ?_
      simp only [spec_Needed.j0]
      refine ev_neg (by simp) (g2 _ ?_)
      refine Ev.step (fun _ => rfl) ?_
      simp only [spec_Needed.l0]
      exact ev_neg (by omega) (ev_some _)
    · rw [if_neg (fun g => h2 g.2)]
      refine ⟨ev_bind0 rfl (ev_bind hsh (ev_neg h1 (ev_bind0 (l1Amount_eq a) ?_))), by simp⟩
      rw [decide_eq_false h2]
      exact hj _ rfl
theorem implNeeded (F : List Stp) (a : Int) (hs : ∀ x ∈ F, x.f1.length ≤ 1048576 ∧ ∀ y ∈ x.f1, y.size ≤ 1048576) (hl : F.length ≤ 1048576) : Ev (fun k => impl_Needed.f k F a) (needs F a) := by
  unfold impl_Needed.f needs
  have hsh := implShow F hs
  have hof := @flow_of F
  generalize B (if flowP F ∧ (txt F).length ≤ 2000 then txt F else []) = T at hsh hof
  have hj : ∀ b : Bool, b = true → Ev (fun k => impl_Needed.j0 k F a b) [] := fun b hb => by
    refine Ev.step (fun _ => rfl) ?_
    simp only [impl_Needed.j0]
    exact ev_pos hb (ev_some _)
  by_cases h1 : T.toList = []
  · rw [if_neg (fun g => g.1 h1)]
    exact ev_bind hsh (ev_pos h1 (hj _ rfl))
  · by_cases h2 : amP a
    · rw [if_pos ⟨h1, h2⟩]
      obtain ⟨h3, h4⟩ := hof h1
      obtain ⟨g1, g2⟩ := ev_foldI (F := fun k s x => impl_Needed.l0 k a s (mof s) F F.length x) (n := F.length) (g := ndR F a) (I := fun i s => s.length ≤ 8 * i) (fun i s hi hs' => impl_row F a h3 h4 (fun i hi => (hs _ (mem_rd hi)).2) i hi s hs') [] (by simp)
      refine ev_bind hsh (ev_neg h1 (ev_bind0 (amount_eq a) ?_))
      rw [decide_eq_true h2]
      refine Ev.step (fun _ => rfl) ?_
      simp only [impl_Needed.j0]
      refine ev_neg (by simp) (g2 _ ?_)
      refine Ev.step (fun _ => rfl) ?_
      simp only [impl_Needed.l0]
      exact ev_neg (by omega) (ev_some _)
    · rw [if_neg (fun g => h2 g.2)]
      refine ev_bind hsh (ev_neg h1 (ev_bind0 (amount_eq a) ?_))
      rw [decide_eq_false h2]
      exact hj _ rfl
end Go.Proofs.Ytjnmfadnkbflfaa.PFnExactNeeded
