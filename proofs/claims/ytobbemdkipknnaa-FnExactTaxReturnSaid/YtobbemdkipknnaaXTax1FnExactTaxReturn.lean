import Derived.Test.YtobbemdkipknnaaXLinesFnExactTaxReturn
set_option linter.unusedVariables false
set_option linter.unusedSimpArgs false
namespace Go.Proofs.Ytobbemdkipknnaa.PFnExactTaxReturn
open Go Go.RowKit Go.Proofs.YtobbemdkipknnaaW.PrintWords Go.Proofs.YtobbemdkipknnaaW.PrintLast Go.Proofs.Ytobbemdkipknnaa.MapWords Go.Proofs.Ytobbemdkipknnaa.IterWords Go.Proofs.Ytobbemdkipknnaa.EvWords
open Classical SortT
abbrev Fl := S82
abbrev Pt := S85
def amt (x : Int) : Prop := -100000000000 ≤ x ∧ x ≤ 100000000000
theorem amt_i (x : Int) : impl_amount.f x = some (decide (amt x)) := by
  unfold impl_amount.f impl_between.f
  by_cases h : x ≥ -100000000000
  · rw [if_pos h]
    exact congrArg some (decide_eq_decide.2 ⟨fun k => ⟨h, k⟩, fun k => k.2⟩)
  · rw [if_neg h]
    exact congrArg some (decide_eq_false (fun k : amt x => h k.1)).symm
def addc (c : ByteArray) (o : Bool) (p : Pt) (x : Tl) : Tl :=
  if o = true then ⟨c, wrap64 (x.f1 + p.f2), x.f2, wrap64 (x.f3 + (if p.f1 = 4 then 0 else p.f3))⟩ else ⟨c, x.f1, wrap64 (x.f2 + p.f2), wrap64 (x.f3 - (if p.f1 = 4 then 0 else p.f3))⟩
abbrev En := Bool × Pt
def rowe (a b : Int) (f : Fl) : List En := if a ≤ f.f0 ∧ f.f0 ≤ b then f.f2.map (fun p => (f.f1, p)) else []
def ents (a b : Int) (L : List Fl) : List En := L.flatMap (rowe a b)
def stp (xs : List (ByteArray × Tl)) (e : En) : List (ByteArray × Tl) := (e.2.f0, addc e.2.f0 e.1 e.2 (mget z59 xs e.2.f0)) :: xs
def mfold (es : List En) : List (ByteArray × Tl) := es.foldl stp []
def lin (c : ByteArray) (es : List En) : Tl := es.foldl (fun x e => if e.2.f0 = c then addc c e.1 e.2 x else x) ⟨c, 0, 0, 0⟩
theorem lin_snoc (c : ByteArray) (es : List En) (e : En) : lin c (es ++ [e]) = if e.2.f0 = c then addc c e.1 e.2 (lin c es) else lin c es := by simp [lin]
theorem lin_f0 (c : ByteArray) (es : List En) : (lin c es).f0 = c := by
  have : ∀ (es : List En) (x : Tl), x.f0 = c → (es.foldl (fun x e => if e.2.f0 = c then addc c e.1 e.2 x else x) x).f0 = c := by
    intro es
    induction es with
    | nil => exact fun x h => h
    | cons e es ih =>
      intro x h
      refine ih _ ?_
      show (if e.2.f0 = c then addc c e.1 e.2 x else x).f0 = c
      split
      · unfold addc
        split <;> rfl
      · exact h
  exact this es _ rfl
theorem addc_same {c : ByteArray} {o : Bool} {p : Pt} {x y : Tl} (h1 : x.f1 = y.f1) (h2 : x.f2 = y.f2) (h3 : x.f3 = y.f3) : addc c o p x = addc c o p y := by
  unfold addc
  rw [h1, h2, h3]
theorem mfold_snoc (es : List En) (e : En) : mfold (es ++ [e]) = stp (mfold es) e := by simp [mfold]
theorem mfold_len (es : List En) : (mfold es).length = es.length := by
  have : ∀ (es : List En) (xs : List (ByteArray × Tl)), (es.foldl stp xs).length = xs.length + es.length := by
    intro es
    induction es with
    | nil => intro xs; rfl
    | cons e es ih => intro xs; rw [List.foldl_cons, ih]; simp [stp]; omega
  simpa [mfold] using this es []
theorem snocs {α : Type} {P : List α → Prop} (h0 : P []) (h1 : ∀ l x, P l → P (l ++ [x])) : ∀ l, P l := by
  intro l
  have : ∀ r : List α, P r.reverse := by
    intro r
    induction r with
    | nil => exact h0
    | cons x r ih => rw [List.reverse_cons]; exact h1 _ _ ih
  have h := this l.reverse
  rwa [List.reverse_reverse] at h
theorem mfold_ok : ∀ es : List En, (∀ c, mhas (mfold es) c = true ↔ ∃ e ∈ es, e.2.f0 = c) ∧ ∀ c, (mget z59 (mfold es) c).f1 = (lin c es).f1 ∧ (mget z59 (mfold es) c).f2 = (lin c es).f2 ∧ (mget z59 (mfold es) c).f3 = (lin c es).f3 ∧ (mhas (mfold es) c = true → mget z59 (mfold es) c = lin c es) := by
  refine snocs ⟨fun c => by simp [mfold, mhas], fun c => ⟨rfl, rfl, rfl, fun h => by simp [mfold, mhas] at h⟩⟩ (fun es e ih => ?_)
  obtain ⟨ih1, ih2⟩ := ih
  rw [mfold_snoc]
  refine ⟨fun c => ?_, fun c => ?_⟩
  · show (if e.2.f0 = c then true else mhas (mfold es) c) = true ↔ _
    by_cases h : e.2.f0 = c
    · rw [if_pos h]
      exact ⟨fun _ => ⟨e, by simp, h⟩, fun _ => rfl⟩
    · rw [if_neg h, ih1]
      constructor
      · rintro ⟨x, hx, hc⟩
        exact ⟨x, by simp [hx], hc⟩
      · rintro ⟨x, hx, hc⟩
        rcases List.mem_append.1 hx with hx | hx
        · exact ⟨x, hx, hc⟩
        · rw [List.mem_singleton.1 hx] at hc
          exact absurd hc h
  · rw [lin_snoc]
    show (if e.2.f0 = c then addc e.2.f0 e.1 e.2 (mget z59 (mfold es) e.2.f0) else mget z59 (mfold es) c).f1 = _ ∧ (if e.2.f0 = c then addc e.2.f0 e.1 e.2 (mget z59 (mfold es) e.2.f0) else mget z59 (mfold es) c).f2 = _ ∧ (if e.2.f0 = c then addc e.2.f0 e.1 e.2 (mget z59 (mfold es) e.2.f0) else mget z59 (mfold es) c).f3 = _ ∧ ((if e.2.f0 = c then true else mhas (mfold es) c) = true → (if e.2.f0 = c then addc e.2.f0 e.1 e.2 (mget z59 (mfold es) e.2.f0) else mget z59 (mfold es) c) = _)
    by_cases h : e.2.f0 = c
    · subst h
      obtain ⟨g1, g2, g3, _⟩ := ih2 e.2.f0
      simp only [if_pos rfl]
      rw [addc_same g1 g2 g3]
      exact ⟨rfl, rfl, rfl, fun _ => rfl⟩
    · simp only [if_neg h]
      exact ih2 c
theorem mels_mem (es : List En) (x : Tl) : x ∈ mels z59 (mfold es) ↔ ∃ e ∈ es, x = lin e.2.f0 es := by
  obtain ⟨h1, h2⟩ := mfold_ok es
  unfold mels
  rw [List.mem_map]
  constructor
  · rintro ⟨c, hc, rfl⟩
    have hh := (mkeys_mem _ _).1 hc
    obtain ⟨e, he, hec⟩ := (h1 c).1 hh
    exact ⟨e, he, by rw [hec]; exact (h2 c).2.2.2 hh⟩
  · rintro ⟨e, he, rfl⟩
    have hh := (h1 e.2.f0).2 ⟨e, he, rfl⟩
    exact ⟨_, (mkeys_mem _ _).2 hh, (h2 _).2.2.2 hh⟩
theorem mels_apart (es : List En) : (mels z59 (mfold es)).Pairwise (fun a b : Tl => a.f0 ≠ b.f0) := by
  obtain ⟨h1, h2⟩ := mfold_ok es
  unfold mels
  rw [List.pairwise_map]
  refine List.Pairwise.imp_of_mem (fun {c d} hc hd hne => ?_) (mkeys_nodup (mfold es))
  rw [(h2 c).2.2.2 ((mkeys_mem _ _).1 hc), (h2 d).2.2.2 ((mkeys_mem _ _).1 hd), lin_f0, lin_f0]
  exact hne
theorem mels_len (es : List En) : (mels z59 (mfold es)).length ≤ es.length := by
  have : ∀ xs : List (ByteArray × Tl), (mkeys xs).length ≤ xs.length := by
    intro xs
    induction xs with
    | nil => simp [mkeys]
    | cons p r ih =>
      obtain ⟨k', v'⟩ := p
      by_cases h : mhas r k' = true
      · rw [show mkeys ((k', v') :: r) = mkeys r from if_pos h, List.length_cons]; omega
      · rw [show mkeys ((k', v') :: r) = k' :: mkeys r from if_neg h, List.length_cons, List.length_cons]; omega
  have h := this (mfold es)
  rw [mfold_len] at h
  unfold mels
  rw [List.length_map]
  exact h
def okF (f : Fl) : Prop := f.f2.length ≤ 6 ∧ ∀ j, j < f.f2.length → amt (rd_T85 f.f2 (j : Nat)).f2 ∧ amt (rd_T85 f.f2 (j : Nat)).f3
def okL (L : List Fl) : Prop := L.length ≤ 200 ∧ ∀ i, i < L.length → okF (rd_T82 L (i : Nat))
theorem ents_snoc (a b : Int) (L : List Fl) (i : Nat) (hi : i < L.length) : ents a b (L.take (i + 1)) = ents a b (L.take i) ++ rowe a b (rd_T82 L (i : Nat)) := by
  have : rd_T82 L (i : Nat) = L[i] := by
    show L.getD ((i : Nat) : Int).toNat _ = _
    rw [Int.toNat_natCast, List.getD_eq_getElem?_getD, List.getElem?_eq_getElem hi]
    rfl
  unfold ents
  rw [List.take_succ_eq_append_getElem hi, List.flatMap_append, this]
  simp
theorem rowe_len (a b : Int) (f : Fl) : (rowe a b f).length ≤ f.f2.length := by
  unfold rowe
  split <;> simp
theorem ents_len (a b : Int) (L : List Fl) : ∀ i, i ≤ L.length → (∀ j, j < i → okF (rd_T82 L (j : Nat))) → (ents a b (L.take i)).length ≤ 6 * i
  | 0, _, _ => by simp [ents]
  | i + 1, hi, h => by
    have ih := ents_len a b L i (by omega) (fun j hj => h j (by omega))
    rw [ents_snoc a b L i (by omega), List.length_append]
    have h1 := rowe_len a b (rd_T82 L (i : Nat))
    have h2 := (h i (by omega)).1
    omega
section
variable {L : List Fl} {a b : Int} (hsz : ∀ i : Nat, i < L.length → ∀ j : Nat, j < (rd_T82 L (i : Nat)).f2.length → (rd_T85 (rd_T82 L (i : Nat)).f2 (j : Nat)).f0.size ≤ 9223372036854775807)
include hsz
theorem impl_part (hL : L.length ≤ 200) (i : Nat) (hi : i < L.length) (hpre : ∀ j, j < i → okF (rd_T82 L (j : Nat))) (h6 : (rd_T82 L (i : Nat)).f2.length ≤ 6) (Q : List Tl)
    (h : okF (rd_T82 L (i : Nat)) → Ev (fun k => impl_TaxReturn.l0 k a b (mfold (ents a b (L.take (i + 1)))) L (L.length : Int) ((i + 1 : Nat) : Int)) Q) (hbad : ¬ okF (rd_T82 L (i : Nat)) → Q = []) :
    Ev (fun k => impl_TaxReturn.l1 k a b (mfold (ents a b (L.take i))) L (L.length : Int) (i : Int) (rd_T82 L (i : Nat)).f2 ((rd_T82 L (i : Nat)).f2.length : Int) 0 (rd_T82 L (i : Nat)).f0 (rd_T82 L (i : Nat)).f1 (rd_T82 L (i : Nat)).f2) Q := by
  have hlen := ents_len a b L i (by omega) hpre
  have hsi := hsz i hi
  have he := ents_snoc a b L i hi
  generalize ents a b (L.take i) = es at hlen he ⊢
  rw [he] at h
  generalize rd_T82 L (i : Nat) = f at *
  have ew : wrap64 ((i : Int) + 1) = ((i + 1 : Nat) : Int) := wrap_succ hi (by omega)
  have hrow : ∀ t, t < f.f2.length → (rowe a b f).take (t + 1) = if a ≤ f.f0 ∧ f.f0 ≤ b then (rowe a b f).take t ++ [(f.f1, rd_T85 f.f2 (t : Nat))] else (rowe a b f).take t := by
    intro t ht
    unfold rowe
    by_cases hc : a ≤ f.f0 ∧ f.f0 ≤ b
    · rw [if_pos hc, if_pos hc, List.take_succ_eq_append_getElem (by simpa using ht), List.getElem_map]
      congr 2
      show _ = (f.f1, f.f2.getD ((t : Nat) : Int).toNat _)
      rw [Int.toNat_natCast, List.getD_eq_getElem?_getD, List.getElem?_eq_getElem ht]
      rfl
    · rw [if_neg hc, if_neg hc]
      simp
  obtain ⟨g1, g2⟩ := ev_loop (F := fun k x => impl_TaxReturn.l1 k a b (mfold (es ++ (rowe a b f).take x.toNat)) L (L.length : Int) (i : Int) f.f2 (f.f2.length : Int) x f.f0 f.f1 f.f2) (n := f.f2.length) (p := fun j => amt (rd_T85 f.f2 (j : Nat)).f2 ∧ amt (rd_T85 f.f2 (j : Nat)).f3) (R := Q) (bad := [])
    (fun hall => by
      refine Ev.step (fun _ => rfl) ?_
      simp only [impl_TaxReturn.l1, Int.toNat_natCast, ew]
      rw [List.take_of_length_le (rowe_len a b f)]
      exact ev_neg (by omega) (h ⟨h6, hall⟩))
    (fun t q ht _ hp hq => by
      have et : wrap64 ((t : Int) + 1) = ((t + 1 : Nat) : Int) := wrap_succ ht (by omega)
      have e4 : (((t + 1 : Nat) : Int)).toNat = t + 1 := Int.toNat_natCast _
      simp only [e4] at hq
      rw [hrow t ht] at hq
      have hml : (mfold (es ++ (rowe a b f).take t)).length < 140737488355328 := by
        rw [mfold_len, List.length_append, List.length_take]
        have := rowe_len a b f
        omega
      refine Ev.step (fun _ => rfl) ?_
      simp only [impl_TaxReturn.l1, Int.toNat_natCast]
      refine ev_pos (by omega) (ev_pos (by omega) (ev_pos (by omega) (ev_bind0 (amt_i _) (ev_pos (decide_eq_true hp.1) (ev_bind0 (amt_i _) ?_)))))
      refine Ev.step (fun _ => rfl) ?_
      simp only [impl_TaxReturn.j2]
      refine ev_neg (by rw [decide_eq_true hp.2]; decide) ?_
      have j3t : ∀ c : Bool, c = true → ¬ (a ≤ f.f0 ∧ f.f0 ≤ b) → Ev (fun k => impl_TaxReturn.j3 k a b (mfold (es ++ (rowe a b f).take t)) L (L.length : Int) (i : Int) f.f2 (f.f2.length : Int) (t : Int) c f.f0 f.f1 f.f2 (rd_T85 f.f2 (t : Int)).f0 (rd_T85 f.f2 (t : Int)).f1 (rd_T85 f.f2 (t : Int)).f2 (rd_T85 f.f2 (t : Int)).f3) q := by
        intro c hc hn
        rw [if_neg hn] at hq
        refine Ev.step (fun _ => rfl) ?_
        simp only [impl_TaxReturn.j3, et]
        exact ev_pos hc hq
      by_cases h1 : f.f0 < a
      · exact ev_pos h1 (j3t _ rfl (fun k => by omega))
      · refine ev_neg h1 ?_
        by_cases h2 : f.f0 > b
        · exact j3t _ (decide_eq_true h2) (fun k => by omega)
        · rw [if_pos ⟨by omega, by omega⟩, ← List.append_assoc, mfold_snoc] at hq
          refine Ev.step (fun _ => rfl) ?_
          simp only [impl_TaxReturn.j3, et]
          refine ev_neg (by rw [decide_eq_true_eq]; exact h2) (ev_pos (hsi t ht) ?_)
          unfold stp addc at hq
          by_cases h3 : (rd_T85 f.f2 (t : Int)).f1 = 4
          · refine ev_pos h3 ?_
            by_cases h4 : f.f1 = true
            · refine ev_pos h4 (ev_pos hml ?_)
              simp only [if_pos h3, if_pos h4] at hq
              exact hq
            · refine ev_neg h4 (ev_pos hml ?_)
              simp only [if_pos h3, if_neg h4] at hq
              exact hq
          · refine ev_neg h3 ?_
            by_cases h4 : f.f1 = true
            · refine ev_pos h4 (ev_pos hml ?_)
              simp only [if_neg h3, if_pos h4] at hq
              exact hq
            · refine ev_neg h4 (ev_pos hml ?_)
              simp only [if_neg h3, if_neg h4] at hq
              exact hq)
    (fun t ht _ hp => by
      refine Ev.step (fun _ => rfl) ?_
      simp only [impl_TaxReturn.l1, Int.toNat_natCast]
      refine ev_pos (by omega) (ev_pos (by omega) (ev_pos (by omega) (ev_bind0 (amt_i _) ?_)))
      have j2t : ∀ c : Bool, c = true → Ev (fun k => impl_TaxReturn.j2 k a b (mfold (es ++ (rowe a b f).take t)) L (L.length : Int) (i : Int) f.f2 (f.f2.length : Int) (t : Int) c f.f0 f.f1 f.f2 (rd_T85 f.f2 (t : Int)).f0 (rd_T85 f.f2 (t : Int)).f1 (rd_T85 f.f2 (t : Int)).f2 (rd_T85 f.f2 (t : Int)).f3) [] := by
        intro c hc
        refine Ev.step (fun _ => rfl) ?_
        simp only [impl_TaxReturn.j2]
        exact ev_pos hc (ev_some _)
      by_cases h1 : amt (rd_T85 f.f2 (t : Int)).f2
      · refine ev_pos (decide_eq_true h1) (ev_bind0 (amt_i _) (j2t _ ?_))
        rw [decide_eq_false (fun h2 => hp ⟨h1, h2⟩)]
        rfl
      · exact ev_neg (by rw [decide_eq_true_eq]; exact h1) (j2t _ rfl))
  have h0 : (0 : Int).toNat = 0 := rfl
  simp only [h0, List.take_zero, List.append_nil] at g1 g2
  by_cases hall : ∀ j, j < f.f2.length → amt (rd_T85 f.f2 (j : Nat)).f2 ∧ amt (rd_T85 f.f2 (j : Nat)).f3
  · exact g1 hall
  · rw [hbad (fun hr => hall hr.2)]
    exact g2 hall
theorem implTax : ∃ r, Ev (fun k => impl_TaxReturn.f k L a b) r ∧ r.length ≤ 1200 ∧ (okL L → r.Pairwise ltC ∧ ∀ x, x ∈ r ↔ ∃ e ∈ ents a b L, x = lin e.2.f0 (ents a b L)) ∧ (¬ okL L → r = []) := by
  by_cases h1 : L.length ≤ 200
  · have hc : ∀ i, i ≤ L.length → (∀ j, j < i → okF (rd_T82 L (j : Nat))) → mcok (mfold (ents a b (L.take i))) = true := fun i hi hp => by
      have := ents_len a b L i hi hp
      have h2 := mels_len (ents a b (L.take i))
      rw [mcok, Bool.and_eq_true, decide_eq_true_eq, apart_iff]
      exact ⟨by omega, mels_apart _⟩
    obtain ⟨r, hr1, hr2, hr3⟩ : ∃ r, (okL L → Ev (fun k => impl_TaxLine.f k (mels z59 (mfold (ents a b L))) ()) r) ∧ (okL L → r.Perm (mels z59 (mfold (ents a b L)))) ∧ (okL L → r.Pairwise ltC) := by
      by_cases ho : okL L
      · have := ents_len a b L L.length (Nat.le_refl _) ho.2
        rw [List.take_length] at this
        have h2 := mels_len (ents a b L)
        obtain ⟨r, k1, k2, k3⟩ := sort_ok _ _ rfl (by omega) (mels_apart (ents a b L))
        exact ⟨r, fun _ => k1, fun _ => k2, fun _ => k3⟩
      · exact ⟨[], fun h => absurd h ho, fun h => absurd h ho, fun h => absurd h ho⟩
    obtain ⟨g1, g2⟩ := ev_loop (F := fun k x => impl_TaxReturn.l0 k a b (mfold (ents a b (L.take x.toNat))) L (L.length : Int) x) (n := L.length) (p := fun i => okF (rd_T82 L (i : Nat))) (R := r) (bad := [])
      (fun hall => by
        refine Ev.step (fun _ => rfl) ?_
        simp only [impl_TaxReturn.l0, Int.toNat_natCast, List.take_length]
        refine ev_neg (by omega) (ev_pos ?_ (hr1 ⟨h1, hall⟩))
        have := hc L.length (Nat.le_refl _) hall
        rwa [List.take_length] at this)
      (fun i q hi hpre hp hq => by
        refine Ev.step (fun _ => rfl) ?_
        simp only [Int.toNat_natCast] at hq ⊢
        simp only [impl_TaxReturn.l0]
        exact ev_pos (by omega) (ev_pos (by omega) (ev_pos (by omega) (ev_neg (by have := hp.1; omega) (impl_part hsz h1 i hi hpre hp.1 q (fun _ => hq) (fun h => absurd hp h))))))
      (fun i hi hpre hp => by
        refine Ev.step (fun _ => rfl) ?_
        simp only [Int.toNat_natCast]
        simp only [impl_TaxReturn.l0]
        refine ev_pos (by omega) (ev_pos (by omega) (ev_pos (by omega) ?_))
        by_cases h6 : (rd_T82 L (i : Nat)).f2.length ≤ 6
        · exact ev_neg (by omega) (impl_part hsz h1 i hi hpre h6 [] (fun h => absurd h hp) (fun _ => rfl))
        · exact ev_pos (by omega) (ev_some _))
    have h0 : (0 : Int).toNat = 0 := rfl
    simp only [h0, List.take_zero] at g1 g2
    by_cases ho : okL L
    · refine ⟨r, ?_, ?_, fun _ => ⟨hr3 ho, fun x => ?_⟩, fun h => absurd ho h⟩
      · unfold impl_TaxReturn.f
        exact ev_neg (by omega) (g1 ho.2)
      · have hl := ents_len a b L L.length (Nat.le_refl _) ho.2
        rw [List.take_length] at hl
        have h2 := mels_len (ents a b L)
        rw [(hr2 ho).length_eq]
        omega
      · rw [(hr2 ho).mem_iff, mels_mem]
    · refine ⟨[], ?_, by simp, fun h => absurd h ho, fun _ => rfl⟩
      unfold impl_TaxReturn.f
      exact ev_neg (by omega) (g2 (fun h => ho ⟨h1, h⟩))
  · refine ⟨[], ?_, by simp, fun h => absurd h.1 h1, fun _ => rfl⟩
    unfold impl_TaxReturn.f
    exact ev_pos (by omega) (ev_some _)
end
end Go.Proofs.Ytobbemdkipknnaa.PFnExactTaxReturn
