import Derived.Test.YtmpknbdbichdiaaLEntryFnExactLedgerOk
set_option linter.unusedVariables false
set_option linter.unusedSimpArgs false
namespace Go.Proofs.Ytmpknbdbichdiaa.PFnExactLedgerOk
open Go Go.RowKit Go.Proofs.YtmpknbdbichdiaaW.PrintWords Go.Proofs.YtmpknbdbichdiaaW.PrintLast Go.Proofs.Ytmpknbdbichdiaa.MapWords Go.Proofs.Ytmpknbdbichdiaa.EvWords
open Classical
abbrev Ent := S103
def inn (n : Int) : Bool := decide (-549755813888 ≤ n ∧ n ≤ 549755813887)
def md (h n : Int) : Int := Int.tmod (wrap64 ((wrap64 ((wrap64 (h * 1000003)) + n)) + 549755813888)) 1099511627791
def lk (st : Int × Bool) (n : Int) : Int × Bool := if inn n = true then (md st.1 n, st.2) else (st.1, true)
theorem link_eq (st : Int × Bool) (n : Int) : impl_chain_link.f st.1 st.2 n = some (lk st n) := by
  unfold impl_chain_link.f
  rw [between_eq]
  show (if inn n = true then some (md st.1 n, st.2) else some (st.1, true)) = some (lk st n)
  unfold lk
  split <;> rfl
theorem lk_ok : ∀ {l : List Int}, (∀ n ∈ l, inn n = true) → ∀ (a : Int) (b : Bool), l.foldl lk (a, b) = (l.foldl md a, b)
  | [], _, _, _ => rfl
  | n :: l, h, a, b => by
    rw [List.foldl_cons, List.foldl_cons, show lk (a, b) n = (md a n, b) from if_pos (h n (by simp))]
    exact lk_ok (fun m hm => h m (List.mem_cons_of_mem _ hm)) _ _
theorem lk_true : ∀ (l : List Int) (st : Int × Bool), st.2 = true → (l.foldl lk st).2 = true
  | [], _, h => h
  | n :: l, st, h => by
    rw [List.foldl_cons]
    refine lk_true l _ ?_
    unfold lk
    split
    · exact h
    · rfl
theorem lk_bad : ∀ (l : List Int) (st : Int × Bool), (¬ ∀ n ∈ l, inn n = true) → (l.foldl lk st).2 = true
  | [], _, h => absurd (fun n hn => absurd hn (by simp)) h
  | n :: l, st, h => by
    rw [List.foldl_cons]
    by_cases hn : inn n = true
    · refine lk_bad l _ (fun g => h (fun m hm => ?_))
      rcases List.mem_cons.1 hm with rfl | hm
      · exact hn
      · exact g m hm
    · refine lk_true l _ ?_
      unfold lk
      rw [if_neg hn]
def tf {σ : Type} (f : σ → Int → σ) (l : List Int) (st : σ) : Nat → σ
  | 0 => st
  | i + 1 => f (tf f l st i) (rd l (i : Nat))
theorem tf_cons {σ : Type} (f : σ → Int → σ) (a : Int) (l : List Int) (st : σ) : ∀ i, tf f (a :: l) st (i + 1) = tf f l (f st a) i
  | 0 => rfl
  | i + 1 => by
    show f (tf f (a :: l) st (i + 1)) (rd (a :: l) ((i + 1 : Nat) : Int)) = f (tf f l (f st a) i) (rd l (i : Nat))
    rw [tf_cons f a l st i]
    rfl
theorem tf_len {σ : Type} (f : σ → Int → σ) : ∀ (l : List Int) (st : σ), tf f l st l.length = l.foldl f st
  | [], _ => rfl
  | a :: l, st => by rw [List.length_cons, tf_cons, tf_len f l]; rfl
def bl (s : ByteArray) (i : Nat) : List Int := (List.range i).map fun j : Nat => wrap64 (bt s (j : Nat))
def ll (E : List Lin) (i : Nat) : List Int := (List.range i).flatMap fun j : Nat => [(rd_T107 E (j : Nat)).f0, (rd_T107 E (j : Nat)).f1, (rd_T107 E (j : Nat)).f2, (rd_T107 E (j : Nat)).f3, (rd_T107 E (j : Nat)).f4]
def nl (a b : Int) (s : ByteArray) (E : List Lin) : List Int := [a, b, (s.size : Int)] ++ bl s s.size ++ [(E.length : Int)] ++ ll E E.length
theorem bl_succ (s : ByteArray) (i : Nat) : bl s (i + 1) = bl s i ++ [wrap64 (bt s (i : Nat))] := by simp [bl, List.range_succ]
theorem ll_succ (E : List Lin) (i : Nat) : ll E (i + 1) = ll E i ++ [(rd_T107 E (i : Nat)).f0, (rd_T107 E (i : Nat)).f1, (rd_T107 E (i : Nat)).f2, (rd_T107 E (i : Nat)).f3, (rd_T107 E (i : Nat)).f4] := by simp [ll, List.range_succ]
theorem bl_len (s : ByteArray) (i : Nat) : (bl s i).length = i := by simp [bl]
theorem ll_len (E : List Lin) : ∀ i, (ll E i).length = 5 * i
  | 0 => rfl
  | i + 1 => by rw [ll_succ, List.length_append, ll_len E i]; simp only [List.length_cons, List.length_nil]; omega
theorem implNums (a b : Int) (s : ByteArray) (E : List Lin) (hs : s.size ≤ 1000) (hE : E.length ≤ 1000) (st : Int × Bool) : Ev (fun k => impl_numbersOf.f k a b s E st.1 st.2) ((nl a b s E).foldl lk st) := by
  unfold impl_numbersOf.f
  refine ev_bind0 (link_eq st a) (ev_bind0 (link_eq (lk st a) b) (ev_bind0 (link_eq (lk (lk st a) b) (s.size : Int)) ?_))
  have e0 : (nl a b s E).foldl lk st = (ll E E.length).foldl lk (lk ((bl s s.size).foldl lk (lk (lk (lk st a) b) (s.size : Int))) (E.length : Int)) := by
    simp only [nl, List.foldl_append, List.foldl_cons, List.foldl_nil]
  rw [e0]
  generalize lk (lk (lk st a) b) (s.size : Int) = s3
  have h := ev_pass (F := fun k x => impl_numbersOf.l0 k x ((bl s x.toNat).foldl lk s3).1 ((bl s x.toNat).foldl lk s3).2 a b s E) (n := s.size) (R := (ll E E.length).foldl lk (lk ((bl s s.size).foldl lk s3) (E.length : Int))) (by
      refine Ev.step (fun _ => rfl) ?_
      simp only [impl_numbersOf.l0, Int.toNat_natCast]
      refine ev_neg (by omega) (ev_bind0 (link_eq ((bl s s.size).foldl lk s3) (E.length : Int)) ?_)
      generalize lk ((bl s s.size).foldl lk s3) (E.length : Int) = s4
      have h := ev_pass (F := fun k x => impl_numbersOf.l1 k E (E.length : Int) x ((ll E x.toNat).foldl lk s4).1 ((ll E x.toNat).foldl lk s4).2) (n := E.length) (R := (ll E E.length).foldl lk s4) (by
          refine Ev.step (fun _ => rfl) ?_
          simp only [impl_numbersOf.l1, Int.toNat_natCast]
          exact ev_neg (by omega) (ev_some _))
        (fun i r hi h => by
          refine Ev.step (fun _ => rfl) ?_
          simp only [impl_numbersOf.l1, Int.toNat_natCast]
          refine ev_pos (by omega) (ev_pos (by omega) (ev_pos (by omega) (ev_bind0 (link_eq ((ll E i).foldl lk s4) _) (ev_bind0 (link_eq _ _) (ev_bind0 (link_eq _ _) (ev_bind0 (link_eq _ _) (ev_bind0 (link_eq _ _) ?_)))))))
          rw [wrap_succ hi (by omega)]
          simp only [Int.toNat_natCast, ll_succ, List.foldl_append, List.foldl_cons, List.foldl_nil] at h
          exact h)
      exact h)
    (fun i r hi h => by
      refine Ev.step (fun _ => rfl) ?_
      simp only [impl_numbersOf.l0, Int.toNat_natCast]
      refine ev_pos (by omega) (ev_pos (by omega) (ev_bind0 (link_eq ((bl s i).foldl lk s3) _) ?_))
      rw [wrap_succ hi (by omega)]
      simp only [Int.toNat_natCast, bl_succ, List.foldl_append, List.foldl_cons, List.foldl_nil] at h
      exact h)
  exact h
theorem specNums (a b : Int) (s : ByteArray) (E : List Lin) (hs : s.size ≤ 1000) (hE : E.length ≤ 1000) : Ev (fun k => spec_l5Numbers.f k a b s E) (nl a b s E) := by
  unfold spec_l5Numbers.f
  have h := ev_pass (F := fun k x => spec_l5Numbers.l0 k ([a, b, (s.size : Int)] ++ bl s x.toNat) x a b s E) (n := s.size) (R := nl a b s E) (by
      refine Ev.step (fun _ => rfl) ?_
      simp only [spec_l5Numbers.l0, Int.toNat_natCast]
      refine ev_neg (by omega) (ev_pos (by rw [List.length_append, bl_len]; simp only [List.length_cons, List.length_nil]; omega) ?_)
      have hx : ([a, b, (s.size : Int)] ++ bl s s.size ++ [(E.length : Int)]).length ≤ 1004 := by
        rw [List.length_append, List.length_append, bl_len]; simp only [List.length_cons, List.length_nil]; omega
      unfold nl
      generalize ([a, b, (s.size : Int)] ++ bl s s.size ++ [(E.length : Int)]) = X at hx ⊢
      have h := ev_pass (F := fun k x => spec_l5Numbers.l1 k (X ++ ll E x.toNat) x a b s E) (n := E.length) (R := X ++ ll E E.length) (by
          refine Ev.step (fun _ => rfl) ?_
          simp only [spec_l5Numbers.l1, Int.toNat_natCast]
          exact ev_neg (by omega) (ev_some _))
        (fun i r hi h => by
          refine Ev.step (fun _ => rfl) ?_
          simp only [spec_l5Numbers.l1, Int.toNat_natCast]
          refine ev_pos (by omega) (ev_pos (by omega) (ev_bind0 rfl (ev_pos (by rw [List.length_append, ll_len]; simp only [List.length_cons, List.length_nil]; omega) ?_)))
          rw [wrap_succ hi (by omega), List.append_assoc, ← ll_succ]
          simp only [Int.toNat_natCast] at h
          exact h)
      simp only [show X ++ ll E (0 : Int).toNat = X from List.append_nil _] at h
      exact h)
    (fun i r hi h => by
      refine Ev.step (fun _ => rfl) ?_
      simp only [spec_l5Numbers.l0, Int.toNat_natCast]
      refine ev_pos (by omega) (ev_pos (by omega) (ev_pos (by rw [List.length_append, bl_len]; simp only [List.length_cons, List.length_nil]; omega) ?_))
      rw [wrap_succ hi (by omega), List.append_assoc, ← bl_succ]
      simp only [Int.toNat_natCast] at h
      exact h)
  exact h
def nle (x : Ent) : List Int := nl x.f0 x.f1 x.f2 x.f3
def szP (x : Ent) : Prop := x.f3.length ≤ 60 ∧ x.f2.size ≤ 40
def pE (x : Ent) : Prop := szP x ∧ ∀ n ∈ nle x, inn n = true
def hS (L : List Ent) : Nat → Int
  | 0 => 1
  | i + 1 => (nle (rd_T103 L (i : Nat))).foldl md (hS L i)
def hI (L : List Ent) : Nat → Int × Bool
  | 0 => (1, false)
  | i + 1 => (nle (rd_T103 L (i : Nat))).foldl lk (hI L i)
noncomputable def hd (L : List Ent) : Int := if ∀ i : Nat, i < L.length → pE (rd_T103 L (i : Nat)) then hS L L.length else 0
theorem hI_ok (L : List Ent) : ∀ i, (∀ j : Nat, j < i → ∀ n ∈ nle (rd_T103 L (j : Nat)), inn n = true) → hI L i = (hS L i, false)
  | 0, _ => rfl
  | i + 1, h => by
    simp only [hI, hS]
    rw [hI_ok L i (fun j hj => h j (by omega))]
    exact lk_ok (h i (by omega)) _ _
theorem hI_bad (L : List Ent) : ∀ i, (¬ ∀ j : Nat, j < i → ∀ n ∈ nle (rd_T103 L (j : Nat)), inn n = true) → (hI L i).2 = true
  | 0, h => absurd (fun j hj => by omega) h
  | i + 1, h => by
    simp only [hI]
    by_cases g : ∀ j : Nat, j < i → ∀ n ∈ nle (rd_T103 L (j : Nat)), inn n = true
    · refine lk_bad _ _ (fun g' => h (fun j hj => ?_))
      by_cases hji : j = i
      · subst hji; exact g'
      · exact g j (by omega)
    · exact lk_true _ _ (hI_bad L i g)
theorem implHead (L : List Ent) (hL : L.length ≤ 1000) (hz : ∀ i : Nat, i < L.length → szP (rd_T103 L (i : Nat))) : Ev (fun k => impl_HeadOf.f k L) (hd L) := by
  unfold impl_HeadOf.f
  refine ev_neg (by omega) ?_
  have h := ev_pass (F := fun k x => impl_HeadOf.l0 k L (L.length : Int) x (hI L x.toNat).1 (hI L x.toNat).2) (n := L.length) (R := hd L) (by
      refine Ev.step (fun _ => rfl) ?_
      simp only [impl_HeadOf.l0, Int.toNat_natCast]
      refine ev_neg (by omega) ?_
      by_cases g : ∀ j : Nat, j < L.length → ∀ n ∈ nle (rd_T103 L (j : Nat)), inn n = true
      · rw [hI_ok L _ g]
        refine ev_neg (by simp) (ev_eq (ev_some _) ?_)
        unfold hd
        rw [if_pos (fun i hi => ⟨hz i hi, g i hi⟩)]
      · refine ev_pos (hI_bad L _ g) (ev_eq (ev_some _) ?_)
        unfold hd
        rw [if_neg (fun q => g (fun j hj => (q j hj).2))])
    (fun i r hi h => by
      have hzi := hz i hi
      unfold szP at hzi
      refine Ev.step (fun _ => rfl) ?_
      simp only [impl_HeadOf.l0, Int.toNat_natCast]
      refine ev_pos (by omega) (ev_pos (by omega) (ev_pos (by omega) (ev_neg (by omega) (ev_neg (by omega) (ev_bind (implNums _ _ _ _ (by omega) (by omega) (hI L i)) ?_)))))
      rw [wrap_succ hi (by omega)]
      simp only [Int.toNat_natCast, hI] at h
      exact h)
  exact h
theorem spec_step (L : List Ent) (hL : L.length ≤ 1000) (i : Nat) (hi : i < L.length) (r : Int) (hr : pE (rd_T103 L (i : Nat)) → Ev (fun k => spec_HeadOf.l0 k L (hS L (i + 1)) ((i + 1 : Nat) : Int)) r) (h0 : ¬ pE (rd_T103 L (i : Nat)) → r = 0) :
    Ev (fun k => spec_HeadOf.l0 k L (hS L i) (i : Int)) r := by
  have j1t : r = 0 → ∀ b : Bool, b = true → Ev (fun k => spec_HeadOf.j1 k L (hS L i) (i : Int) b) r := fun e b hb => by
    refine Ev.step (fun _ => rfl) ?_
    simp only [spec_HeadOf.j1]
    exact ev_pos hb (ev_eq (ev_some _) e.symm)
  refine Ev.step (fun _ => rfl) ?_
  simp only [spec_HeadOf.l0]
  refine ev_pos (by omega) (ev_pos (by omega) ?_)
  by_cases h1 : (((rd_T103 L (i : Nat)).f3).length : Int) > 60
  · exact ev_pos h1 (j1t (h0 (fun g => by have := g.1.1; omega)) _ rfl)
  refine ev_neg h1 ?_
  by_cases h2 : (((rd_T103 L (i : Nat)).f2).size : Int) > 40
  · rw [decide_eq_true h2]
    exact j1t (h0 (fun g => by have := g.1.2; omega)) _ rfl
  rw [decide_eq_false h2]
  refine Ev.step (fun _ => rfl) ?_
  simp only [spec_HeadOf.j1]
  refine ev_neg (by simp) (ev_pos (by omega) (ev_pos (by omega) (ev_bind (specNums _ _ _ _ (by omega) (by omega)) ?_)))
  have hx : (nle (rd_T103 L (i : Nat))).length ≤ 1000 := by
    unfold nle nl
    rw [List.length_append, List.length_append, List.length_append, bl_len, ll_len]
    simp only [List.length_cons, List.length_nil]
    omega
  have hp : pE (rd_T103 L (i : Nat)) ↔ ∀ j : Nat, j < (nle (rd_T103 L (i : Nat))).length → inn (rd (nle (rd_T103 L (i : Nat))) (j : Nat)) = true :=
    ⟨fun g j hj => g.2 _ (mem_rd hj), fun g => ⟨⟨by omega, by omega⟩, of_mem_rd g⟩⟩
  have hS1 : hS L (i + 1) = tf md (nle (rd_T103 L (i : Nat))) (hS L i) (nle (rd_T103 L (i : Nat))).length := by
    rw [tf_len]; rfl
  rw [hS1] at hr
  rw [hp] at hr h0
  show Ev (fun k => spec_HeadOf.l1 k L (hS L i) (i : Int) (nle (rd_T103 L (i : Nat))) 0) r
  generalize nle (rd_T103 L (i : Nat)) = l at hx hr h0 ⊢
  obtain ⟨g1, g2⟩ := ev_loop (F := fun k x => spec_HeadOf.l1 k L (tf md l (hS L i) x.toNat) (i : Int) l x) (n := l.length) (p := fun j => inn (rd l (j : Nat)) = true) (R := r) (bad := 0)
    (fun h => by
      refine Ev.step (fun _ => rfl) ?_
      simp only [spec_HeadOf.l1, Int.toNat_natCast]
      refine ev_neg (by omega) ?_
      rw [wrap_succ hi (by omega)]
      exact hr h)
    (fun j r hj _ hp h => by
      refine Ev.step (fun _ => rfl) ?_
      simp only [spec_HeadOf.l1, Int.toNat_natCast]
      refine ev_pos (by omega) (ev_pos (by omega) (ev_bind0 (l1In_eq _ _ _) (ev_pos hp ?_)))
      rw [wrap_succ hj (by omega)]
      simp only [Int.toNat_natCast] at h
      exact h)
    (fun j hj _ hp => by
      refine Ev.step (fun _ => rfl) ?_
      simp only [spec_HeadOf.l1, Int.toNat_natCast]
      exact ev_pos (by omega) (ev_pos (by omega) (ev_bind0 (l1In_eq _ _ _) (ev_neg hp (ev_some _)))))
  by_cases h : ∀ j : Nat, j < l.length → inn (rd l (j : Nat)) = true
  · exact g1 h
  · exact ev_eq (g2 h) (h0 h).symm
theorem specHead (L : List Ent) (hL : L.length ≤ 1000) : Ev (fun k => spec_HeadOf.f k L) (hd L) := by
  unfold spec_HeadOf.f
  refine ev_neg (by omega) ?_
  obtain ⟨g1, g2⟩ := ev_loop (F := fun k x => spec_HeadOf.l0 k L (hS L x.toNat) x) (n := L.length) (p := fun i => pE (rd_T103 L (i : Nat))) (R := hS L L.length) (bad := 0)
    (fun h => by
      refine Ev.step (fun _ => rfl) ?_
      simp only [spec_HeadOf.l0, Int.toNat_natCast]
      exact ev_neg (by omega) (ev_some _))
    (fun i r hi _ hp h => spec_step L hL i hi r (fun _ => h) (fun g => absurd hp g))
    (fun i hi _ hp => spec_step L hL i hi 0 (fun g => absurd g hp) (fun _ => rfl))
  unfold hd
  by_cases h : ∀ i : Nat, i < L.length → pE (rd_T103 L (i : Nat))
  · rw [if_pos h]; exact g1 h
  · rw [if_neg h]; exact g2 h
section
variable (c : List Acc) (hs : ∀ i : Nat, i < c.length → (rd_T222 c i).f0.size ≤ 9223372036854775807) (d q : Int) (L : List Ent) (a : Int)
  (hL : ∀ i : Nat, i < L.length → (rd_T103 L (i : Nat)).f2.size ≤ 1048576)
def enP (c : List Acc) (d q : Int) (x : Ent) : Prop := entP c d q x.f0 x.f1 x.f2 x.f3
def ledP (c : List Acc) (d q : Int) (L : List Ent) (a : Int) : Prop := L.length ≤ 1000 ∧ frameP c d q ∧ a = hd L ∧ ∀ i : Nat, i < L.length → enP c d q (rd_T103 L (i : Nat))
include hs hL
theorem specLedger : Ev (fun k => spec_LedgerOk.f k c d q L a) (decide (ledP c d q L a)) := by
  have jt : ¬ ledP c d q L a → ∀ b : Bool, b = true → Ev (fun k => spec_LedgerOk.j0 k b c d q L a) (decide (ledP c d q L a)) := fun h b hb => by
    rw [decide_eq_false h]
    refine Ev.step (fun _ => rfl) ?_
    simp only [spec_LedgerOk.j0]
    exact ev_pos hb (ev_some _)
  unfold spec_LedgerOk.f
  by_cases h1 : (L.length : Int) > 1000
  · exact ev_pos h1 (jt (fun g => by have := g.1; omega) _ rfl)
  refine ev_neg h1 (ev_bind (spec_frame c hs d q) ?_)
  by_cases h2 : frameP c d q
  · refine ev_pos (decide_eq_true h2) (ev_bind (specHead L (by omega)) ?_)
    by_cases h3 : a = hd L
    · refine Ev.step (fun _ => rfl) ?_
      simp only [spec_LedgerOk.j0]
      refine ev_neg (by simp [h3]) ?_
      refine ev_eq (ev_loopB (F := fun k x => spec_LedgerOk.l0 k x c d q L a) (n := L.length) (p := fun i => enP c d q (rd_T103 L (i : Nat))) ?_ ?_ ?_) (decide_eq_decide.2 ⟨fun g => ⟨by omega, h2, h3, g⟩, fun g => g.2.2.2⟩)
      · intro _
        refine Ev.step (fun _ => rfl) ?_
        simp only [spec_LedgerOk.l0]
        exact ev_neg (by omega) (ev_some _)
      · intro i r hi _ hp h
        refine Ev.step (fun _ => rfl) ?_
        simp only [spec_LedgerOk.l0]
        refine ev_pos (by omega) (ev_pos (by omega) (ev_bind (specEntry c hs d q _ _ _ (hL i hi) _) (ev_pos (decide_eq_true ⟨h2, hp⟩) ?_)))
        rw [wrap_succ hi (by omega)]
        exact h
      · intro i hi _ hp
        refine Ev.step (fun _ => rfl) ?_
        simp only [spec_LedgerOk.l0]
        exact ev_pos (by omega) (ev_pos (by omega) (ev_bind (specEntry c hs d q _ _ _ (hL i hi) _) (ev_neg (by rw [decide_eq_true_eq]; exact fun g => hp g.2) (ev_some _))))
    · exact jt (fun g => h3 g.2.2.1) _ (by simp [h3])
  · exact ev_neg (by rw [decide_eq_true_eq]; exact h2) (jt (fun g => h2 g.2.1) _ rfl)
theorem implLedger (hw : ∀ i : Nat, i < L.length → ∀ j : Nat, j < (rd_T103 L (i : Nat)).f3.length → (-9223372036854775808 ≤ (rd_T107 (rd_T103 L (i : Nat)).f3 (j : Nat)).f0 ∧ (rd_T107 (rd_T103 L (i : Nat)).f3 (j : Nat)).f0 ≤ 9223372036854775807) ∧ (-9223372036854775808 ≤ (rd_T107 (rd_T103 L (i : Nat)).f3 (j : Nat)).f1 ∧ (rd_T107 (rd_T103 L (i : Nat)).f3 (j : Nat)).f1 ≤ 9223372036854775807) ∧ (-9223372036854775808 ≤ (rd_T107 (rd_T103 L (i : Nat)).f3 (j : Nat)).f2 ∧ (rd_T107 (rd_T103 L (i : Nat)).f3 (j : Nat)).f2 ≤ 9223372036854775807)) :
    Ev (fun k => impl_LedgerOk.f k c d q L a) (decide (ledP c d q L a)) := by
  have jt : ¬ ledP c d q L a → ∀ b : Bool, b = true → Ev (fun k => impl_LedgerOk.j0 k b c d q L a) (decide (ledP c d q L a)) := fun h b hb => by
    rw [decide_eq_false h]
    refine Ev.step (fun _ => rfl) ?_
    simp only [impl_LedgerOk.j0]
    exact ev_pos hb (ev_some _)
  unfold impl_LedgerOk.f
  refine ev_bind (impl_frame c hs d q) ?_
  by_cases h2 : frameP c d q
  · refine ev_pos (decide_eq_true h2) ?_
    by_cases h1 : (L.length : Int) > 1000
    · exact jt (fun g => by have := g.1; omega) _ (decide_eq_true h1)
    refine Ev.step (fun _ => rfl) ?_
    simp only [impl_LedgerOk.j0]
    refine ev_neg (by rw [decide_eq_true_eq]; exact h1) ?_
    obtain ⟨g1, g2⟩ := ev_loop (F := fun k x => impl_LedgerOk.l0 k L (L.length : Int) x c d q L a) (n := L.length) (p := fun i => enP c d q (rd_T103 L (i : Nat))) (R := decide (a = hd L)) (bad := false)
      (fun h => by
        refine Ev.step (fun _ => rfl) ?_
        simp only [impl_LedgerOk.l0]
        refine ev_neg (by omega) (ev_bind (implHead L (by omega) (fun i hi => ⟨(h i hi).2.2.2.1.2, (h i hi).2.2.1.1⟩)) (ev_eq (ev_some _) ?_))
        by_cases e : a = hd L
        · simp [e]
        · simp [e])
      (fun i r hi _ hp h => by
        refine Ev.step (fun _ => rfl) ?_
        simp only [impl_LedgerOk.l0]
        refine ev_pos (by omega) (ev_pos (by omega) (ev_pos (by omega) (ev_bind (implIn c d q h2 _ _ _ (hL i hi) _ (hw i hi)) (ev_pos (decide_eq_true hp) ?_))))
        rw [wrap_succ hi (by omega)]
        exact h)
      (fun i hi _ hp => by
        refine Ev.step (fun _ => rfl) ?_
        simp only [impl_LedgerOk.l0]
        exact ev_pos (by omega) (ev_pos (by omega) (ev_pos (by omega) (ev_bind (implIn c d q h2 _ _ _ (hL i hi) _ (hw i hi)) (ev_neg (by rw [decide_eq_true_eq]; exact hp) (ev_some _))))))
    by_cases h : ∀ i : Nat, i < L.length → enP c d q (rd_T103 L (i : Nat))
    · refine ev_eq (g1 h) (decide_eq_decide.2 ⟨fun g => ⟨by omega, h2, g, h⟩, fun g => g.2.2.1⟩)
    · refine ev_eq (g2 h) ?_
      symm; rw [decide_eq_false_iff_not]; exact fun g => h g.2.2.2
  · exact ev_neg (by rw [decide_eq_true_eq]; exact h2) (jt (fun g => h2 g.2.1) _ rfl)
end
end Go.Proofs.Ytmpknbdbichdiaa.PFnExactLedgerOk
