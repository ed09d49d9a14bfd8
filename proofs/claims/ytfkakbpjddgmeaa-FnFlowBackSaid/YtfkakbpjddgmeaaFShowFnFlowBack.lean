import Derived.Test.YtfkakbpjddgmeaaFReadFnFlowBack
set_option linter.unusedVariables false
set_option linter.unusedSimpArgs false
namespace Go.Proofs.Ytfkakbpjddgmeaa.PFnFlowBack
open Go Go.RowKit Go.Proofs.YtfkakbpjddgmeaaW.PrintWords Go.Proofs.YtfkakbpjddgmeaaW.PrintLast Go.Proofs.Ytfkakbpjddgmeaa.MapWords Go.Proofs.Ytfkakbpjddgmeaa.IterWords Go.Proofs.Ytfkakbpjddgmeaa.EvWords
open Classical
abbrev Stp := S51
def nm (rs : List ByteArray) (i : Nat) : ByteArray := rs.getD i ByteArray.empty
def rolesP (rs : List ByteArray) : Prop := ∀ i : Nat, i < rs.length → nameP (nm rs i) ∧ ∀ j : Nat, j < i → nm rs j ≠ nm rs i
def stepP (o : Int) (rs : List ByteArray) : Prop := (0 ≤ o ∧ o ≤ 100000000000) ∧ (1 ≤ rs.length ∧ rs.length ≤ 8) ∧ rolesP rs
def msn (rs : List ByteArray) : Nat → List (ByteArray × Bool)
  | 0 => []
  | i + 1 => (nm rs i, true) :: msn rs i
theorem msn_len (rs : List ByteArray) : ∀ i, (msn rs i).length = i
  | 0 => rfl
  | i + 1 => by simp [msn, msn_len rs i]
theorem msn_get (rs : List ByteArray) (s : ByteArray) : ∀ i, mget false (msn rs i) s = true ↔ ∃ j : Nat, j < i ∧ nm rs j = s
  | 0 => by simp [msn, mget]
  | i + 1 => by
    simp only [msn, mget]
    split
    · rename_i h
      exact ⟨fun _ => ⟨i, by omega, h⟩, fun _ => rfl⟩
    · rename_i h
      rw [msn_get rs s i]
      exact ⟨fun ⟨j, hj, e⟩ => ⟨j, by omega, e⟩, fun ⟨j, hj, e⟩ => ⟨j, by
        by_cases hji : j = i
        · subst hji; exact absurd e h
        · omega, e⟩⟩
theorem nm_rd (rs : List ByteArray) (i : Nat) : rdOf ByteArray.empty rs (i : Int) = nm rs i := rfl
theorem nm_sz {rs : List ByteArray} {M : Nat} (h : ∀ y ∈ rs, y.size ≤ M) (i : Nat) (hi : i < rs.length) : (nm rs i).size ≤ M := h _ (mem_rd hi)
theorem r_roles (o : Int) (rs : List ByteArray) (hr : rs.length ≤ 1000) (hs : ∀ y ∈ rs, y.size ≤ 4000) :
    Ev (fun k => impl_readStep.l0 k o rs [] rs (rs.length : Int) 0) (if rolesP rs then (o, rs, true) else (0, [], false)) := by
  obtain ⟨g1, g2⟩ := ev_loop (F := fun k x => impl_readStep.l0 k o rs (msn rs x.toNat) rs (rs.length : Int) x) (n := rs.length) (p := fun i => nameP (nm rs i) ∧ ∀ j : Nat, j < i → nm rs j ≠ nm rs i) (R := (o, rs, true)) (bad := (0, [], false))
    (fun _ => by
      refine Ev.step (fun _ => rfl) ?_
      simp only [impl_readStep.l0]
      exact ev_neg (by omega) (ev_some _))
    (fun i r hi _ hp h => by
      refine Ev.step (fun _ => rfl) ?_
      simp only [impl_readStep.l0, Int.toNat_natCast, nm_rd]
      have hz := nm_sz hs i hi
      refine ev_pos (by omega) (ev_pos (by omega) (ev_pos (by omega) (ev_bind (implName _) (ev_pos (by simpa using hp.1) (ev_pos (by omega) ?_)))))
      refine ev_neg (fun hm => ?_) (ev_pos (by rw [msn_len]; omega) ?_)
      · obtain ⟨j, hj, e⟩ := (msn_get rs _ i).1 hm
        exact hp.2 j hj e
      · rw [wrap_succ hi (by omega)]
        have e : (((i + 1 : Nat) : Int)).toNat = i + 1 := Int.toNat_natCast _
        simp only [e] at h
        exact h)
    (fun i hi _ hp => by
      refine Ev.step (fun _ => rfl) ?_
      simp only [impl_readStep.l0, Int.toNat_natCast, nm_rd]
      have hz := nm_sz hs i hi
      refine ev_pos (by omega) (ev_pos (by omega) (ev_pos (by omega) (ev_bind (implName _) ?_)))
      by_cases h1 : nameP (nm rs i)
      · refine ev_pos (by simpa using h1) (ev_pos (by omega) (ev_pos ((msn_get rs _ i).2 ?_) (ev_some _)))
        by_cases h2 : ∃ j : Nat, j < i ∧ nm rs j = nm rs i
        · exact h2
        · exact absurd ⟨h1, fun j hj e => h2 ⟨j, hj, e⟩⟩ hp
      · exact ev_neg (by simpa using h1) (ev_some _))
  by_cases h : rolesP rs
  · rw [if_pos h]; exact g1 h
  · rw [if_neg h]; exact g2 h
theorem r_fail1 {x : List ByteArray} {o : Int} : Ev (fun k => impl_readStep.j1 k x o true) (0, [], false) := by
  refine Ev.step (fun _ => rfl) ?_
  simp only [impl_readStep.j1]
  exact ev_pos trivial (ev_some _)
theorem r_fail0 {s : ByteArray} : Ev (fun k => impl_readStep.j0 k s true) (0, [], false) := by
  refine Ev.step (fun _ => rfl) ?_
  simp only [impl_readStep.j0]
  exact ev_pos trivial (ev_some _)
def okS' (r : Int × List ByteArray × Bool) : Prop := r.2.2 = true → stepP r.1 r.2.1
theorem okS_fail : okS' (0, [], false) := fun h => by cases h
theorem stepAny (s : ByteArray) (hs : s.size ≤ 4000) : EvP (fun k => impl_readStep.f k s) okS' := by
  have h1 : ∀ (x : List ByteArray) (o : Int) (b : Bool), 2 ≤ x.length → (∀ y ∈ x, y.size ≤ 4000) → (b = false → 0 ≤ o ∧ o ≤ 100000000000) → EvP (fun k => impl_readStep.j1 k x o b) okS' := by
    intro x o b hx hy hb
    by_cases h : b = true
    · subst h; exact ⟨_, r_fail1, okS_fail⟩
    · refine evp_step (fun _ => rfl) ?_
      simp only [impl_readStep.j1]
      have hz : (nm x 1).size ≤ 4000 := nm_sz hy 1 (by omega)
      refine evp_neg h (evp_pos (by omega) (evp_bind (cutAny (nm x 1) _ hz ⟨by decide, by decide⟩) (fun rs hrs => ?_)))
      by_cases h8 : (rs.length : Int) > 8
      · exact evp_pos h8 (evp_some okS_fail)
      · refine evp_neg h8 ⟨_, r_roles o rs (by omega) (fun y hy2 => Nat.le_trans (hrs.2 y hy2) hz), ?_⟩
        by_cases hp : rolesP rs
        · rw [if_pos hp]
          exact fun _ => ⟨hb (by simpa using h), ⟨hrs.1.1, by show rs.length ≤ 8; omega⟩, hp⟩
        · rw [if_neg hp]; exact okS_fail
  have h0 : ∀ b : Bool, (b = false → 5 ≤ s.size) → EvP (fun k => impl_readStep.j0 k s b) okS' := by
    intro b hb
    by_cases h : b = true
    · subst h; exact ⟨_, r_fail0, okS_fail⟩
    · have h5 := hb (by simpa using h)
      refine evp_step (fun _ => rfl) ?_
      simp only [impl_readStep.j0]
      have hz : (s.extract 5 s.size).size ≤ 4000 := by rw [ByteArray.size_extract]; omega
      refine evp_neg h (evp_pos (by omega) (evp_bind (cutAny _ _ hz ⟨by decide, by decide⟩) (fun x hx => ?_)))
      by_cases h2 : (x.length : Int) = 2
      · have hx2 : ∀ y ∈ x, y.size ≤ 4000 := fun y hy => Nat.le_trans (hx.2 y hy) hz
        have hz0 : (nm x 0).size ≤ 4000 := nm_sz hx2 0 (by omega)
        have hm := readAny (nm x 0).toList (by have := B_size (nm x 0).toList; rw [B_of] at this; omega)
        rw [B_of] at hm
        refine evp_pos h2 (evp_pos (by omega) (evp_bind hm (fun v hv => ?_)))
        by_cases h3 : v.2 = true
        · refine evp_pos h3 ?_
          by_cases h4 : v.1 < 0
          · exact evp_pos h4 ⟨_, r_fail1, okS_fail⟩
          · refine evp_neg h4 (evp_bind (evp_ev (implMoney v.1)) (fun t _ => ?_))
            exact h1 x v.1 _ (by omega) hx2 (fun _ => ⟨by omega, (hv.1 h3).2⟩)
        · exact evp_neg h3 ⟨_, r_fail1, okS_fail⟩
      · exact evp_neg h2 (evp_some okS_fail)
  unfold impl_readStep.f
  by_cases h : (s.size : Int) < 5
  · exact evp_pos h (h0 true (fun e => by cases e))
  · exact evp_neg h (evp_pos (by omega) (evp_pos (by omega) (h0 _ (fun _ => by omega))))
def jn : List (List UInt8) → List UInt8
  | [] => []
  | x :: ps => x ++ tl 44 32 ps
def bl (rs : List ByteArray) : List (List UInt8) := rs.map ByteArray.toList
def lineOf (o : List UInt8) (rs : List ByteArray) : List UInt8 := [111, 118, 101, 114, 32] ++ (o ++ tl 58 32 [jn (bl rs)])
theorem bl_B (rs : List ByteArray) : (bl rs).map B = rs := by
  unfold bl
  rw [List.map_map]
  have : (B ∘ ByteArray.toList) = id := by funext s; exact B_of s
  rw [this, List.map_id]
theorem name_chars {s : ByteArray} (h : nameP s) : ∀ c ∈ s.toList, nbP (c.toNat : Int) := by
  intro c hc
  obtain ⟨i, hi, rfl⟩ := List.getElem_of_mem hc
  have h1 := h.2.2 i (by have := B_size s.toList; rw [B_of] at this; omega)
  rw [← B_of s, B_bt _ _ hi] at h1
  exact h1
theorem name_len {s : ByteArray} (h : nameP s) : 1 ≤ s.toList.length ∧ s.toList.length ≤ 20 := by
  have h1 := B_size s.toList
  rw [B_of] at h1
  exact ⟨by have := h.1; omega, by have := h.2.1; omega⟩
theorem tl_mem (c1 c2 : UInt8) : ∀ (ps : List (List UInt8)) (P : UInt8 → Prop), P c1 → P c2 → (∀ p ∈ ps, ∀ c ∈ p, P c) → ∀ c ∈ tl c1 c2 ps, P c := by
  intro ps P h1 h2
  induction ps with
  | nil => intro _ c hc; cases hc
  | cons p ps ih =>
    intro h c hc
    rcases List.mem_cons.1 hc with rfl | hc
    · exact h1
    · rcases List.mem_cons.1 hc with rfl | hc
      · exact h2
      · rcases List.mem_append.1 hc with hc | hc
        · exact h p (by simp) c hc
        · exact ih (fun q hq => h q (by simp [hq])) c hc
theorem tl_len (c1 c2 : UInt8) (M : Nat) : ∀ (ps : List (List UInt8)), (∀ p ∈ ps, p.length ≤ M) → (tl c1 c2 ps).length ≤ ps.length * (M + 2) := by
  intro ps
  induction ps with
  | nil => intro _; simp [tl]
  | cons p ps ih =>
    intro h
    have h1 := ih (fun q hq => h q (by simp [hq]))
    have h2 := h p (by simp)
    show (c1 :: c2 :: (p ++ tl c1 c2 ps)).length ≤ (ps.length + 1) * (M + 2)
    rw [Nat.add_mul]
    simp only [List.length_cons, List.length_append]
    omega
theorem jn_mem (xs : List (List UInt8)) (P : UInt8 → Prop) (h1 : P 44) (h2 : P 32) (h : ∀ p ∈ xs, ∀ c ∈ p, P c) : ∀ c ∈ jn xs, P c := by
  intro c hc
  cases xs with
  | nil => cases hc
  | cons x ps =>
    rcases List.mem_append.1 hc with hc | hc
    · exact h x (by simp) c hc
    · exact tl_mem 44 32 ps P h1 h2 (fun p hp => h p (by simp [hp])) c hc
theorem jn_len (M : Nat) (xs : List (List UInt8)) (h : ∀ p ∈ xs, p.length ≤ M) : (jn xs).length ≤ xs.length * (M + 2) := by
  cases xs with
  | nil => simp [jn]
  | cons x ps =>
    have h1 := tl_len 44 32 M ps (fun p hp => h p (by simp [hp]))
    have h2 := h x (by simp)
    show (x ++ tl 44 32 ps).length ≤ (ps.length + 1) * (M + 2)
    rw [Nat.add_mul, List.length_append]
    omega
theorem mon_mem (n : Nat) : ∀ c ∈ mon n, c = 46 ∨ isD c := by
  intro c hc
  unfold mon at hc
  rcases List.mem_append.1 hc with hc | hc
  · exact Or.inr (dec_isD _ c hc)
  · rcases List.mem_cons.1 hc with rfl | hc
    · exact Or.inl rfl
    · rcases List.mem_cons.1 hc with rfl | hc
      · exact Or.inr (dgt_isD (by omega))
      · rw [List.mem_singleton.1 hc]; exact Or.inr (dgt_isD (by omega))
theorem step_names {o : Int} {rs : List ByteArray} (h : stepP o rs) : ∀ p ∈ bl rs, (1 ≤ p.length ∧ p.length ≤ 20) ∧ ∀ c ∈ p, nbP (c.toNat : Int) := by
  intro p hp
  obtain ⟨s, hs, rfl⟩ := List.mem_map.1 hp
  obtain ⟨i, hi, rfl⟩ := List.getElem_of_mem hs
  have h1 : nameP rs[i] := by
    have := (h.2.2 i hi).1
    unfold nm at this
    rwa [List.getD_eq_getElem?_getD, List.getElem?_eq_getElem hi] at this
  exact ⟨name_len h1, name_chars h1⟩
theorem nb_lt {c : UInt8} (h : nbP (c.toNat : Int)) : c.toNat < 128 ∧ c ≠ 44 ∧ c ≠ 58 ∧ c ≠ 10 := by
  unfold nbP at h
  refine ⟨by omega, fun e => ?_, fun e => ?_, fun e => ?_⟩
  · rw [e] at h; have : (44 : UInt8).toNat = 44 := rfl; omega
  · rw [e] at h; have : (58 : UInt8).toNat = 58 := rfl; omega
  · rw [e] at h; have : (10 : UInt8).toNat = 10 := rfl; omega
theorem mon_lt {n : Nat} {c : UInt8} (hc : c ∈ mon n) : c.toNat < 128 ∧ c ≠ 58 ∧ c ≠ 10 := by
  have : c.toNat ≠ 58 ∧ c.toNat ≠ 10 ∧ c.toNat < 128 := by
    rcases mon_mem n c hc with rfl | h
    · exact ⟨by decide, by decide, by decide⟩
    · unfold isD at h; omega
  exact ⟨this.2.2, fun e => this.1 (by rw [e]; rfl), fun e => this.2.1 (by rw [e]; rfl)⟩
theorem jn_ok {o : Int} {rs : List ByteArray} (h : stepP o rs) : (jn (bl rs)).length ≤ 176 ∧ ∀ c ∈ jn (bl rs), c.toNat < 128 ∧ c ≠ 58 ∧ c ≠ 10 := by
  have hn := step_names h
  constructor
  · have h3 := jn_len 20 (bl rs) (fun p hp => (hn p hp).1.2)
    have hl : (bl rs).length = rs.length := by unfold bl; rw [List.length_map]
    have h4 := h.2.1.2
    rw [hl] at h3
    omega
  · refine jn_mem (bl rs) _ ⟨by decide, by decide, by decide⟩ ⟨by decide, by decide, by decide⟩ (fun p hp c hc => ?_)
    have := nb_lt ((hn p hp).2 c hc)
    exact ⟨this.1, this.2.2.1, this.2.2.2⟩
theorem stepExact (n : Nat) (rs : List ByteArray) (h : stepP (n : Int) rs) : Ev (fun k => impl_readStep.f k (B (lineOf (mon n) rs))) ((n : Int), rs, true) := by
  have hn : n ≤ 100000000000 := by have := h.1.2; omega
  have hml := mon_len hn
  obtain ⟨hjl, hjc⟩ := jn_ok h
  have hlen : (lineOf (mon n) rs).length = 5 + ((mon n).length + (2 + (jn (bl rs)).length)) := by
    unfold lineOf
    simp only [List.length_append, List.length_cons, List.length_nil, tl]
    omega
  have hrest : (B (lineOf (mon n) rs)).extract 5 (B (lineOf (mon n) rs)).size = B (mon n ++ tl 58 32 [jn (bl rs)]) := by
    rw [B_ext, B_size]
    unfold lineOf
    rw [List.drop_left' (by rfl), List.take_of_length_le]
    simp only [List.length_append, List.length_cons, List.length_nil]
    omega
  have hrl : (mon n ++ tl 58 32 [jn (bl rs)]).length ≤ 4000 := by
    simp only [List.length_append, List.length_cons, List.length_nil, tl]
    omega
  have c1 : Ev (fun k => impl_cutAt.f k (B (mon n ++ tl 58 32 [jn (bl rs)])) (B [58, 32])) ((mon n :: [jn (bl rs)]).map B) := by
    refine cutExact 58 32 (mon n) [jn (bl rs)] hrl ?_ (fun c hc => (mon_lt hc).2.1) (fun p hp c hc => ?_)
    · intro c hc
      rcases List.mem_append.1 hc with hc | hc
      · exact (mon_lt hc).1
      · exact tl_mem 58 32 [jn (bl rs)] (fun c => c.toNat < 128) (by decide) (by decide) (fun p hp c hc => by rw [List.mem_singleton.1 hp] at hc; exact (hjc c hc).1) c hc
    · rw [List.mem_singleton.1 hp] at hc
      exact (hjc c hc).2.1
  have c2 : Ev (fun k => impl_cutAt.f k (B (jn (bl rs))) (B [44, 32])) rs := by
    have hn2 := step_names h
    cases hb : bl rs with
    | nil =>
      have : (bl rs).length = rs.length := by unfold bl; rw [List.length_map]
      rw [hb] at this
      have := h.2.1.1
      simp at *
      omega
    | cons x ps =>
      rw [hb] at hjl hjc hn2
      have := cutExact 44 32 x ps (by show (jn (x :: ps)).length ≤ 4000; omega) (fun c hc => (hjc c hc).1) (fun c hc => (nb_lt ((hn2 x (by simp)).2 c hc)).2.1) (fun p hp c hc => (nb_lt ((hn2 p (by simp [hp])).2 c hc)).2.1)
      rw [← hb, bl_B] at this
      show Ev (fun k => impl_cutAt.f k (B (x ++ tl 44 32 ps)) (B [44, 32])) rs
      exact this
  obtain ⟨v, hv1, hv2⟩ := readAny (mon n) (by omega)
  have hv := hv2.2 n hn rfl
  rw [hv] at hv1
  have hsm : smo (n : Int) = mon n := by
    unfold smo
    rw [if_pos (by unfold amP; omega), if_neg (by omega)]
    rfl
  have hmo := implMoney (n : Int)
  rw [hsm] at hmo
  have hroles := r_roles (n : Int) rs (by have := h.2.1.2; omega) (fun y hy => by
    have := (step_names h y.toList (List.mem_map.2 ⟨y, hy, rfl⟩)).1.2
    have h5 := B_size y.toList
    rw [B_of] at h5
    omega)
  rw [if_pos h.2.2] at hroles
  have j1 : ∀ b : Bool, b = false → Ev (fun k => impl_readStep.j1 k ((mon n :: [jn (bl rs)]).map B) (n : Int) b) ((n : Int), rs, true) := by
    intro b hb
    refine Ev.step (fun _ => rfl) ?_
    simp only [impl_readStep.j1]
    refine ev_neg (by simp [hb]) (ev_pos (by simp) (ev_bind c2 ?_))
    exact ev_neg (by have := h.2.1.2; omega) hroles
  have j0 : ∀ b : Bool, b = false → Ev (fun k => impl_readStep.j0 k (B (lineOf (mon n) rs)) b) ((n : Int), rs, true) := by
    intro b hb
    refine Ev.step (fun _ => rfl) ?_
    simp only [impl_readStep.j0]
    refine ev_neg (by simp [hb]) ?_
    rw [hrest]
    refine ev_pos (by rw [B_size]; omega) (ev_bind c1 (ev_pos (by simp) (ev_pos (by simp) (ev_bind hv1 (ev_pos rfl (ev_neg (by omega) (ev_bind hmo (j1 _ ?_))))))))
    rw [bne_eq_false_iff_eq]
    rfl
  unfold impl_readStep.f
  refine ev_neg (by rw [B_size]; omega) (ev_pos (by omega) (ev_pos (by rw [B_size]; omega) (j0 _ ?_)))
  rw [bne_eq_false_iff_eq, B_ext, B_list]
  unfold lineOf
  rfl
end Go.Proofs.Ytfkakbpjddgmeaa.PFnFlowBack

set_option linter.unusedVariables false
set_option linter.unusedSimpArgs false
namespace Go.Proofs.Ytfkakbpjddgmeaa.PFnFlowBack
open Go Go.RowKit Go.Proofs.YtfkakbpjddgmeaaW.PrintWords Go.Proofs.YtfkakbpjddgmeaaW.PrintLast Go.Proofs.Ytfkakbpjddgmeaa.MapWords Go.Proofs.Ytfkakbpjddgmeaa.IterWords Go.Proofs.Ytfkakbpjddgmeaa.EvWords
open Classical
def st (F : List Stp) (i : Nat) : Stp := F.getD i z51
def stpP (x : Stp) : Prop := stepP x.f0 x.f1
def flowP (F : List Stp) : Prop := F.length ≤ 20 ∧ ∀ i : Nat, i < F.length → stpP (st F i) ∧ (0 < i → (st F (i - 1)).f0 < (st F i).f0)
theorem st_rd (F : List Stp) (i : Nat) : rd_T51 F (i : Int) = st F i := rfl
theorem st_app1 {F : List Stp} {x : Stp} {i : Nat} (h : i < F.length) : st (F ++ [x]) i = st F i := by
  unfold st
  rw [List.getD_eq_getElem?_getD, List.getD_eq_getElem?_getD, List.getElem?_append_left h]
theorem st_app2 {F : List Stp} {x : Stp} : st (F ++ [x]) F.length = x := by
  unfold st
  rw [List.getD_eq_getElem?_getD, List.getElem?_append_right (Nat.le_refl _), Nat.sub_self]
  rfl
theorem flow_snoc {F : List Stp} {x : Stp} (h : flowP F) (hl : F.length < 20) (hx : stpP x) (ho : 0 < F.length → (st F (F.length - 1)).f0 < x.f0) : flowP (F ++ [x]) := by
  have e : (F ++ [x]).length = F.length + 1 := by simp
  refine ⟨by omega, fun i hi => ?_⟩
  by_cases h1 : i < F.length
  · rw [st_app1 h1]
    refine ⟨(h.2 i h1).1, fun h2 => ?_⟩
    rw [st_app1 (by omega)]
    exact (h.2 i h1).2 h2
  · have h2 : i = F.length := by omega
    subst h2
    rw [st_app2]
    refine ⟨hx, fun h3 => ?_⟩
    rw [st_app1 (by omega)]
    exact ho h3
def okFl (r : List Stp × Int) : Prop := r.2 = 0 → flowP r.1
theorem p_any (ls : List ByteArray) (w : Bool) (hl : ls.length ≤ 4000) (hs : ∀ y ∈ ls, y.size ≤ 4000) : ∀ (d i : Nat) (acc : List Stp), i + d = ls.length → acc.length = i → flowP acc →
    EvP (fun k => impl_ParseFlow.l0 k ls w acc ls (ls.length : Int) (i : Int)) okFl := by
  intro d
  induction d with
  | zero =>
    intro i acc hi ha hf
    refine evp_step (fun _ => rfl) ?_
    simp only [impl_ParseFlow.l0]
    exact evp_neg (by omega) (evp_some (fun _ => hf))
  | succ d ih =>
    intro i acc hi ha hf
    have hw : wrap64 ((i : Int) + 1) = ((i + 1 : Nat) : Int) := by rw [wrap_id (by omega) (by omega)]; omega
    have bad : okFl (([] : List Stp), ((i + 1 : Nat) : Int)) := fun h => by exfalso; have h2 : ((i + 1 : Nat) : Int) = 0 := h; omega
    refine evp_step (fun _ => rfl) ?_
    simp only [impl_ParseFlow.l0, nm_rd]
    rw [hw]
    refine evp_pos (by omega) (evp_pos (by omega) (evp_pos (by omega) (evp_bind (stepAny (nm ls i) (nm_sz hs i (by omega))) (fun r hr => ?_))))
    by_cases h1 : r.2.2 = true
    · refine evp_pos h1 ?_
      have hD : (0 < i → (st acc (i - 1)).f0 < r.1) → EvP (fun k => if (i : Int) = 20 then some (([] : List Stp), ((i + 1 : Nat) : Int)) else if acc.length < 4398046511104 then impl_ParseFlow.l0 k ls w (acc ++ [(⟨r.1, r.2.1⟩ : Stp)]) ls (ls.length : Int) ((i + 1 : Nat) : Int) else none) okFl := by
        intro ho
        by_cases h2 : i = 20
        · exact evp_pos (by omega) (evp_some bad)
        · refine evp_neg (by omega) (evp_pos (by omega) (ih (i + 1) _ (by omega) (by simp [ha]) ?_))
          refine flow_snoc hf (by have := hf.1; omega) (hr h1) (fun h3 => ?_)
          rw [ha]
          exact ho (by omega)
      have hC : EvP (fun k => if (i : Int) > 0 then (if 0 ≤ wrap64 ((i : Int) - 1) then (if wrap64 ((i : Int) - 1) < (acc.length : Int) then (if (rd_T51 acc (wrap64 ((i : Int) - 1))).f0 ≥ r.1 then some (([] : List Stp), ((i + 1 : Nat) : Int)) else (if (i : Int) = 20 then some (([] : List Stp), ((i + 1 : Nat) : Int)) else if acc.length < 4398046511104 then impl_ParseFlow.l0 k ls w (acc ++ [(⟨r.1, r.2.1⟩ : Stp)]) ls (ls.length : Int) ((i + 1 : Nat) : Int) else none)) else none) else none) else (if (i : Int) = 20 then some (([] : List Stp), ((i + 1 : Nat) : Int)) else if acc.length < 4398046511104 then impl_ParseFlow.l0 k ls w (acc ++ [(⟨r.1, r.2.1⟩ : Stp)]) ls (ls.length : Int) ((i + 1 : Nat) : Int) else none)) okFl := by
        by_cases h2 : 0 < i
        · have hw2 : wrap64 ((i : Int) - 1) = ((i - 1 : Nat) : Int) := by rw [wrap_id (by omega) (by omega)]; omega
          rw [hw2, st_rd]
          refine evp_pos (by omega) (evp_pos (by omega) (evp_pos (by omega) ?_))
          by_cases h3 : (st acc (i - 1)).f0 ≥ r.1
          · exact evp_pos h3 (evp_some bad)
          · exact evp_neg h3 (hD (fun _ => by omega))
        · exact evp_neg (by omega) (hD (fun h => absurd h h2))
      by_cases h4 : ((i + 1 : Nat) : Int) = (ls.length : Int)
      · refine evp_pos h4 ?_
        by_cases h5 : w = true
        · exact evp_pos h5 hC
        · exact evp_neg h5 (evp_some bad)
      · exact evp_neg h4 hC
    · exact evp_neg h1 (evp_some bad)
theorem parseAny (l : List UInt8) (hl : l.length ≤ 2000) : EvP (fun k => impl_ParseFlow.f k (B l)) okFl := by
  unfold impl_ParseFlow.f
  obtain ⟨b1, b2⟩ := lin_bd l []
  simp only [List.length_nil, Nat.zero_add] at b1 b2
  refine evp_neg (by rw [B_size]; omega) (evp_bind (evp_ev (implLines l (by omega))) (fun a ha => ?_))
  rw [ha]
  refine p_any _ _ (by rw [List.length_map]; omega) (fun y hy => ?_) _ 0 [] (Nat.zero_add _) rfl ⟨by simp, fun i hi => absurd hi (by simp)⟩
  obtain ⟨x, hx, rfl⟩ := List.mem_map.1 hy
  have := b2 x hx
  rw [B_size]; omega
theorem p_exact (F : List Stp) (hF : flowP F) (ls : List ByteArray) (hl : ls.length = F.length) (hr : ∀ i : Nat, i < F.length → Ev (fun k => impl_readStep.f k (nm ls i)) ((st F i).f0, (st F i).f1, true)) : ∀ (d i : Nat), i + d = F.length →
    Ev (fun k => impl_ParseFlow.l0 k ls true (F.take i) ls (ls.length : Int) (i : Int)) (F, 0) := by
  intro d
  have h20 := hF.1
  induction d with
  | zero =>
    intro i hi
    refine Ev.step (fun _ => rfl) ?_
    simp only [impl_ParseFlow.l0]
    refine ev_neg (by omega) (ev_eq (ev_some _) ?_)
    rw [List.take_of_length_le (by omega)]
  | succ d ih =>
    intro i hi
    have hlt : i < F.length := by omega
    have hw : wrap64 ((i : Int) + 1) = ((i + 1 : Nat) : Int) := by rw [wrap_id (by omega) (by omega)]; omega
    have hta : F.take (i + 1) = F.take i ++ [st F i] := by
      rw [List.take_succ_eq_append_getElem hlt]
      unfold st
      rw [List.getD_eq_getElem?_getD, List.getElem?_eq_getElem hlt]
      rfl
    have htl : (F.take i).length = i := by rw [List.length_take]; omega
    have hst : ∀ j, j < i → st (F.take i) j = st F j := fun j hj => by
      unfold st
      rw [List.getD_eq_getElem?_getD, List.getD_eq_getElem?_getD, List.getElem?_take_of_lt hj]
    have hD : Ev (fun k => if (i : Int) = 20 then some (([] : List Stp), ((i + 1 : Nat) : Int)) else if (F.take i).length < 4398046511104 then impl_ParseFlow.l0 k ls true (F.take i ++ [(⟨(st F i).f0, (st F i).f1⟩ : Stp)]) ls (ls.length : Int) ((i + 1 : Nat) : Int) else none) (F, 0) := by
      refine ev_neg (by omega) (ev_pos (by omega) ?_)
      have := ih (i + 1) (by omega)
      rw [hta] at this
      exact this
    have hC : Ev (fun k => if (i : Int) > 0 then (if 0 ≤ wrap64 ((i : Int) - 1) then (if wrap64 ((i : Int) - 1) < ((F.take i).length : Int) then (if (rd_T51 (F.take i) (wrap64 ((i : Int) - 1))).f0 ≥ (st F i).f0 then some (([] : List Stp), ((i + 1 : Nat) : Int)) else (if (i : Int) = 20 then some (([] : List Stp), ((i + 1 : Nat) : Int)) else if (F.take i).length < 4398046511104 then impl_ParseFlow.l0 k ls true (F.take i ++ [(⟨(st F i).f0, (st F i).f1⟩ : Stp)]) ls (ls.length : Int) ((i + 1 : Nat) : Int) else none)) else none) else none) else (if (i : Int) = 20 then some (([] : List Stp), ((i + 1 : Nat) : Int)) else if (F.take i).length < 4398046511104 then impl_ParseFlow.l0 k ls true (F.take i ++ [(⟨(st F i).f0, (st F i).f1⟩ : Stp)]) ls (ls.length : Int) ((i + 1 : Nat) : Int) else none)) (F, 0) := by
      by_cases h2 : 0 < i
      · have hw2 : wrap64 ((i : Int) - 1) = ((i - 1 : Nat) : Int) := by rw [wrap_id (by omega) (by omega)]; omega
        have ho := (hF.2 i hlt).2 h2
        rw [hw2, st_rd, hst _ (by omega)]
        exact ev_pos (by omega) (ev_pos (by omega) (ev_pos (by omega) (ev_neg (by omega) hD)))
      · exact ev_neg (by omega) hD
    refine Ev.step (fun _ => rfl) ?_
    simp only [impl_ParseFlow.l0, nm_rd]
    rw [hw]
    refine ev_pos (by omega) (ev_pos (by omega) (ev_pos (by omega) (ev_bind (hr i hlt) (ev_pos rfl ?_))))
    by_cases h4 : ((i + 1 : Nat) : Int) = (ls.length : Int)
    · exact ev_pos h4 (ev_pos trivial hC)
    · exact ev_neg h4 hC
noncomputable def ln (x : Stp) : List UInt8 := lineOf (smo x.f0) x.f1
noncomputable def txt : List Stp → List UInt8
  | [] => []
  | x :: F => ln x ++ 10 :: txt F
theorem smo_mon {o : Int} (h : 0 ≤ o ∧ o ≤ 100000000000) : smo o = mon o.toNat := by
  unfold smo
  rw [if_pos (by unfold amP; omega), if_neg (by omega), show o.natAbs = o.toNat by omega]
theorem ln_no10 {x : Stp} (h : stpP x) : ∀ c ∈ ln x, c ≠ 10 := by
  intro c hc
  unfold ln lineOf at hc
  rw [smo_mon h.1] at hc
  rcases List.mem_append.1 hc with hc | hc
  · simp only [List.mem_cons, List.not_mem_nil, or_false] at hc
    rcases hc with rfl | rfl | rfl | rfl | rfl <;> decide
  · rcases List.mem_append.1 hc with hc | hc
    · exact (mon_lt hc).2.2
    · exact tl_mem 58 32 _ (fun c => c ≠ 10) (by decide) (by decide) (fun p hp c hc => by rw [List.mem_singleton.1 hp] at hc; exact ((jn_ok h).2 c hc).2.2) c hc
theorem lin_txt : ∀ F : List Stp, (∀ x ∈ F, stpP x) → lin [] (txt F) = (F.map ln, true) := by
  intro F
  induction F with
  | nil => intro _; rfl
  | cons x F ih =>
    intro h
    show lin [] (ln x ++ 10 :: txt F) = _
    rw [lin_line _ _ _ (ln_no10 (h x (by simp))), ih (fun y hy => h y (by simp [hy]))]
    rfl
theorem flow_mem {F : List Stp} (h : flowP F) : ∀ x ∈ F, stpP x := by
  intro x hx
  obtain ⟨i, hi, rfl⟩ := List.getElem_of_mem hx
  have := (h.2 i hi).1
  unfold st at this
  rwa [List.getD_eq_getElem?_getD, List.getElem?_eq_getElem hi] at this
theorem parseExact (F : List Stp) (hF : flowP F) (hl : (txt F).length ≤ 2000) : Ev (fun k => impl_ParseFlow.f k (B (txt F))) (F, 0) := by
  unfold impl_ParseFlow.f
  have hlin := implLines (txt F) (by omega)
  rw [lin_txt F (flow_mem hF)] at hlin
  refine ev_neg (by rw [B_size]; omega) (ev_bind hlin ?_)
  refine p_exact F hF ((F.map ln).map B) (by simp) (fun i hi => ?_) F.length 0 (by omega)
  have e : nm ((F.map ln).map B) i = B (ln (st F i)) := by
    unfold nm st
    rw [List.getD_eq_getElem?_getD, List.getD_eq_getElem?_getD, List.getElem?_map, List.getElem?_map, List.getElem?_eq_getElem hi]
    rfl
  rw [e]
  have hs : stpP (st F i) := (hF.2 i hi).1
  have h0 : 0 ≤ (st F i).f0 := hs.1.1
  unfold ln
  rw [smo_mon hs.1]
  have hs2 : stepP ((((st F i).f0).toNat : Nat) : Int) (st F i).f1 := by
    rw [Int.toNat_of_nonneg h0]; exact hs
  have := stepExact _ _ hs2
  rw [Int.toNat_of_nonneg h0] at this
  exact this
end Go.Proofs.Ytfkakbpjddgmeaa.PFnFlowBack

set_option linter.unusedVariables false
set_option linter.unusedSimpArgs false
namespace Go.Proofs.Ytfkakbpjddgmeaa.PFnFlowBack
open Go Go.RowKit Go.Proofs.YtfkakbpjddgmeaaW.PrintWords Go.Proofs.YtfkakbpjddgmeaaW.PrintLast Go.Proofs.Ytfkakbpjddgmeaa.MapWords Go.Proofs.Ytfkakbpjddgmeaa.IterWords Go.Proofs.Ytfkakbpjddgmeaa.EvWords
open Classical
theorem specHas (rs : List ByteArray) (s : ByteArray) (hl : rs.length ≤ 4000) : Ev (fun k => spec_l10Has.f k rs s) (decide (∃ j : Nat, j < rs.length ∧ nm rs j = s)) := by
  unfold spec_l10Has.f
  obtain ⟨g1, g2⟩ := ev_loop (F := fun k x => spec_l10Has.l0 k rs s x) (n := rs.length) (p := fun i => nm rs i ≠ s) (R := false) (bad := true)
    (fun _ => by
      refine Ev.step (fun _ => rfl) ?_
      simp only [spec_l10Has.l0]
      exact ev_neg (by omega) (ev_some _))
    (fun i r hi _ hp h => by
      refine Ev.step (fun _ => rfl) ?_
      simp only [spec_l10Has.l0, nm_rd, str_iff]
      refine ev_pos (by omega) (ev_pos (by omega) (ev_neg hp ?_))
      rw [wrap_succ hi (by omega)]
      exact h)
    (fun i hi _ hp => by
      refine Ev.step (fun _ => rfl) ?_
      simp only [spec_l10Has.l0, nm_rd, str_iff]
      exact ev_pos (by omega) (ev_pos (by omega) (ev_pos (by simpa using hp) (ev_some _))))
  by_cases h : ∃ j : Nat, j < rs.length ∧ nm rs j = s
  · rw [decide_eq_true h]
    exact g2 (fun h2 => by obtain ⟨j, hj, e⟩ := h; exact h2 j hj e)
  · rw [decide_eq_false h]
    exact g1 (fun j hj e => h ⟨j, hj, e⟩)
theorem nm_take {rs : List ByteArray} {i j : Nat} (h : j < i) : nm (rs.take i) j = nm rs j := by
  unfold nm
  rw [List.getD_eq_getElem?_getD, List.getD_eq_getElem?_getD, List.getElem?_take_of_lt h]
theorem specRoles (rs : List ByteArray) (hs : ∀ y ∈ rs, y.size ≤ 9223372036854775807) : Ev (fun k => spec_l11Roles.f k rs) (decide (rs.length ≤ 8 ∧ rolesP rs)) := by
  unfold spec_l11Roles.f
  by_cases h8 : (rs.length : Int) > 8
  · refine ev_pos h8 (ev_eq (ev_some _) ?_)
    symm; rw [decide_eq_false_iff_not]; omega
  · refine ev_neg h8 ?_
    have hh : ∀ i, i < rs.length → Ev (fun k => spec_l10Has.f k (rs.take i) (nm rs i)) (decide (∃ j : Nat, j < i ∧ nm rs j = nm rs i)) := fun i hi => by
      refine ev_eq (specHas (rs.take i) (nm rs i) (by rw [List.length_take]; omega)) ?_
      rw [decide_eq_decide, List.length_take, Nat.min_eq_left (by omega)]
      exact ⟨fun ⟨j, hj, e⟩ => ⟨j, hj, by rwa [nm_take hj] at e⟩, fun ⟨j, hj, e⟩ => ⟨j, hj, by rwa [nm_take hj]⟩⟩
    refine ev_eq (ev_loopB (F := fun k x => spec_l11Roles.l0 k rs x) (n := rs.length) (p := fun i => nameP (nm rs i) ∧ ∀ j : Nat, j < i → nm rs j ≠ nm rs i) ?_ ?_ ?_) ?_
    · intro _
      refine Ev.step (fun _ => rfl) ?_
      simp only [spec_l11Roles.l0]
      exact ev_neg (by omega) (ev_some _)
    · intro i r hi _ hp h
      refine Ev.step (fun _ => rfl) ?_
      simp only [spec_l11Roles.l0, nm_rd, Int.toNat_natCast]
      refine ev_pos (by omega) (ev_pos (by omega) (ev_bind (specName _ (nm_sz hs i hi)) (ev_pos (by simpa using hp.1) (ev_pos (by omega) (ev_bind (hh i hi) ?_)))))
      refine ev_neg ?_ ?_
      · rw [decide_eq_true_eq]
        rintro ⟨j, hj, e⟩
        exact hp.2 j hj e
      · rw [wrap_succ hi (by omega)]
        exact h
    · intro i hi _ hp
      refine Ev.step (fun _ => rfl) ?_
      simp only [spec_l11Roles.l0, nm_rd, Int.toNat_natCast]
      refine ev_pos (by omega) (ev_pos (by omega) (ev_bind (specName _ (nm_sz hs i hi)) ?_))
      by_cases h1 : nameP (nm rs i)
      · refine ev_pos (by simpa using h1) (ev_pos (by omega) (ev_bind (hh i hi) (ev_pos ?_ (ev_some _))))
        rw [decide_eq_true_eq]
        by_cases h2 : ∃ j : Nat, j < i ∧ nm rs j = nm rs i
        · exact h2
        · exact absurd ⟨h1, fun j hj e => h2 ⟨j, hj, e⟩⟩ hp
      · exact ev_neg (by simpa using h1) (ev_some _)
    · rw [decide_eq_decide]
      exact ⟨fun h => ⟨by omega, h⟩, fun h => h.2⟩
theorem specOk (F : List Stp) (hs : ∀ x ∈ F, ∀ y ∈ x.f1, y.size ≤ 9223372036854775807) : Ev (fun k => spec_l11FlowOk.f k F) (decide (flowP F)) := by
  unfold spec_l11FlowOk.f
  by_cases h20 : (F.length : Int) > 20
  · refine ev_pos h20 (ev_eq (ev_some _) ?_)
    symm; rw [decide_eq_false_iff_not]; exact fun h => by have := h.1; omega
  · refine ev_neg h20 ?_
    have hz : ∀ i, i < F.length → ∀ y ∈ (st F i).f1, y.size ≤ 9223372036854775807 := fun i hi => hs _ (mem_rd hi)
    refine ev_eq (ev_loopB (F := fun k x => spec_l11FlowOk.l0 k F x) (n := F.length) (p := fun i => stpP (st F i) ∧ (0 < i → (st F (i - 1)).f0 < (st F i).f0)) ?_ ?_ ?_) ?_
    · intro _
      refine Ev.step (fun _ => rfl) ?_
      simp only [spec_l11FlowOk.l0]
      exact ev_neg (by omega) (ev_some _)
    · intro i r hi _ hp h
      refine Ev.step (fun _ => rfl) ?_
      simp only [spec_l11FlowOk.l0, st_rd]
      refine ev_pos (by omega) (ev_pos (by omega) (ev_bind0 (l1In_eq _ _ _) (ev_pos (by rw [decide_eq_true_eq]; exact hp.1.1) (ev_neg (by have := hp.1.2.1.1; omega) (ev_bind (specRoles _ (hz i hi)) (ev_pos (by rw [decide_eq_true_eq]; exact ⟨hp.1.2.1.2, hp.1.2.2⟩) ?_))))))
      rw [wrap_succ hi (by omega)]
      by_cases h0 : 0 < i
      · have hw : wrap64 ((i : Int) - 1) = ((i - 1 : Nat) : Int) := by rw [wrap_id (by omega) (by omega)]; omega
        have ho := hp.2 h0
        rw [hw]
        simp only [st_rd]
        exact ev_pos (by omega) (ev_pos (by omega) (ev_pos (by omega) (ev_neg (by omega) h)))
      · exact ev_neg (by omega) h
    · intro i hi _ hp
      refine Ev.step (fun _ => rfl) ?_
      simp only [spec_l11FlowOk.l0, st_rd]
      refine ev_pos (by omega) (ev_pos (by omega) (ev_bind0 (l1In_eq _ _ _) ?_))
      by_cases h1 : 0 ≤ (st F i).f0 ∧ (st F i).f0 ≤ 100000000000
      · refine ev_pos (by rw [decide_eq_true_eq]; exact h1) ?_
        by_cases h2 : (((st F i).f1.length : Nat) : Int) = 0
        · exact ev_pos h2 (ev_some _)
        · refine ev_neg h2 (ev_bind (specRoles _ (hz i hi)) ?_)
          by_cases h3 : (st F i).f1.length ≤ 8 ∧ rolesP (st F i).f1
          · refine ev_pos (by rw [decide_eq_true_eq]; exact h3) ?_
            have h4 : ¬ (0 < i → (st F (i - 1)).f0 < (st F i).f0) := fun h => hp ⟨⟨h1, ⟨by omega, h3.1⟩, h3.2⟩, h⟩
            have h5 : 0 < i ∧ ¬ (st F (i - 1)).f0 < (st F i).f0 := by
              by_cases h6 : 0 < i
              · exact ⟨h6, fun h7 => h4 (fun _ => h7)⟩
              · exact absurd (fun h => absurd h h6) h4
            have hw : wrap64 ((i : Int) - 1) = ((i - 1 : Nat) : Int) := by rw [wrap_id (by omega) (by omega)]; omega
            rw [hw]
            simp only [st_rd]
            exact ev_pos (by omega) (ev_pos (by omega) (ev_pos (by omega) (ev_pos (by have := h5.2; omega) (ev_some _))))
          · exact ev_neg (by rw [decide_eq_true_eq]; exact h3) (ev_some _)
      · exact ev_neg (by rw [decide_eq_true_eq]; exact h1) (ev_some _)
    · rw [decide_eq_decide]
      exact ⟨fun h => ⟨by omega, h⟩, fun h => h.2⟩
theorem bl_at {rs : List ByteArray} {i : Nat} (hi : i < rs.length) : (bl rs).drop i = (nm rs i).toList :: (bl rs).drop (i + 1) := by
  have e : nm rs i = rs[i] := by
    unfold nm
    rw [List.getD_eq_getElem?_getD, List.getElem?_eq_getElem hi]
    rfl
  unfold bl
  rw [e, ← List.map_drop, List.drop_eq_getElem_cons hi, List.map_cons, List.map_drop]
theorem bl_end (rs : List ByteArray) : (bl rs).drop rs.length = [] := by
  apply List.drop_of_length_le
  unfold bl; rw [List.length_map]; exact Nat.le_refl _
theorem nmB (rs : List ByteArray) (i : Nat) : rdOf ByteArray.empty rs (i : Int) = B (nm rs i).toList := by rw [nm_rd, B_of]
theorem nm_tl {rs : List ByteArray} (hs : ∀ y ∈ rs, y.size ≤ 1048576) {i : Nat} (hi : i < rs.length) : (nm rs i).toList.length ≤ 1048576 := by
  have h1 := nm_sz hs i hi
  have h2 := B_size (nm rs i).toList
  rw [B_of] at h2
  omega
def more (rs : List ByteArray) (i : Nat) (t : List UInt8) : List UInt8 := if i = 0 then t ++ jn (bl rs) else t ++ tl 44 32 ((bl rs).drop i)
theorem more_end (rs : List ByteArray) (t : List UInt8) : more rs rs.length t = t := by
  unfold more
  by_cases h : rs.length = 0
  · rw [if_pos h]
    have : bl rs = [] := by
      apply List.eq_nil_of_length_eq_zero
      unfold bl; rw [List.length_map]; exact h
    rw [this]; simp [jn]
  · rw [if_neg h, bl_end]; simp [tl]
theorem more_zero {rs : List ByteArray} (h : 0 < rs.length) (t : List UInt8) : more rs 0 t = more rs 1 (t ++ (nm rs 0).toList) := by
  unfold more
  rw [if_pos rfl, if_neg (by omega)]
  have := bl_at (rs := rs) (i := 0) h
  rw [List.drop_zero] at this
  rw [this]
  show t ++ ((nm rs 0).toList ++ tl 44 32 ((bl rs).drop (0 + 1))) = _
  rw [List.append_assoc]
  rfl
theorem more_succ {rs : List ByteArray} {i : Nat} (hi : i < rs.length) (h0 : 0 < i) (t : List UInt8) : more rs i t = more rs (i + 1) (t ++ [44, 32] ++ (nm rs i).toList) := by
  unfold more
  rw [if_neg (by omega), if_neg (by omega), bl_at hi]
  show t ++ (44 :: 32 :: ((nm rs i).toList ++ tl 44 32 ((bl rs).drop (i + 1)))) = _
  simp
theorem more_len {rs : List ByteArray} (hl : rs.length ≤ 1048576) (hs : ∀ y ∈ rs, y.size ≤ 1048576) (t : List UInt8) : (more rs 0 t).length ≤ t.length + 1099513724928 := by
  unfold more
  rw [if_pos rfl, List.length_append]
  have h1 := jn_len 1048576 (bl rs) (fun p hp => by
    obtain ⟨s, h5, rfl⟩ := List.mem_map.1 hp
    have h2 := hs s h5
    have h3 := B_size s.toList
    rw [B_of] at h3
    omega)
  have h2 : (bl rs).length = rs.length := by unfold bl; rw [List.length_map]
  rw [h2] at h1
  have h3 : rs.length * (1048576 + 2) ≤ 1048576 * (1048576 + 2) := Nat.mul_le_mul_right _ hl
  omega
theorem roles_loop {F : Nat → ByteArray → Int → Option ByteArray} {rs : List ByteArray} (M : Nat) (R : ByteArray)
    (hz : ∀ (i : Nat) (t : List UInt8), i < rs.length → 0 < i → t.length ≤ M → Ev (fun k => F k (B (t ++ [44, 32] ++ (nm rs i).toList)) ((i + 1 : Nat) : Int)) R → Ev (fun k => F k (B t) (i : Int)) R)
    (h0 : ∀ (t : List UInt8), 0 < rs.length → t.length ≤ M → Ev (fun k => F k (B (t ++ (nm rs 0).toList)) ((1 : Nat) : Int)) R → Ev (fun k => F k (B t) ((0 : Nat) : Int)) R)
    (t : List UInt8) (hM : (more rs 0 t).length ≤ M) (hend : Ev (fun k => F k (B (more rs 0 t)) (rs.length : Int)) R) : Ev (fun k => F k (B t) ((0 : Nat) : Int)) R := by
  have grow : ∀ (i : Nat) (t : List UInt8), t.length ≤ (more rs i t).length := fun i t => by
    unfold more
    by_cases h : i = 0
    · rw [if_pos h, List.length_append]; omega
    · rw [if_neg h, List.length_append]; omega
  have main : ∀ (d i : Nat) (t : List UInt8), i + d = rs.length → 0 < i → (more rs i t).length ≤ M → Ev (fun k => F k (B (more rs i t)) (rs.length : Int)) R → Ev (fun k => F k (B t) (i : Int)) R := by
    intro d
    induction d with
    | zero =>
      intro i t hi _ _ h
      have : i = rs.length := by omega
      subst this
      rw [more_end] at h
      exact h
    | succ d ih =>
      intro i t hi hp hm h
      have hlt : i < rs.length := by omega
      have h1 := more_succ hlt hp t
      rw [h1] at h hm
      exact hz i t hlt hp (by have := grow i t; rw [h1] at this; omega) (ih (i + 1) _ (by omega) (by omega) hm h)
  by_cases h : 0 < rs.length
  · have h1 := more_zero h t
    have h2 := grow 0 t
    rw [h1] at hend hM
    rw [h1] at h2
    exact h0 t h (by omega) (main (rs.length - 1) 1 _ (by omega) (by omega) hM hend)
  · have h1 : rs.length = 0 := by omega
    have h2 := more_end rs t
    rw [h1] at h2
    rw [h2, h1] at hend
    exact hend
theorem ln_more (o : List UInt8) (rs : List ByteArray) : lineOf o rs = more rs 0 ([111, 118, 101, 114, 32] ++ o ++ [58, 32]) := by
  unfold more lineOf
  rw [if_pos rfl]
  simp [tl]
theorem more_app (rs : List ByteArray) (a t : List UInt8) : a ++ more rs 0 t = more rs 0 (a ++ t) := by
  unfold more
  rw [if_pos rfl, if_pos rfl, List.append_assoc]
theorem specStep (n : Nat) (rs : List ByteArray) (h : stepP (n : Int) rs) : Ev (fun k => spec_l11Step.f k (n : Int) rs) (B (lineOf (mon n) rs ++ [10])) := by
  have hn : n ≤ 100000000000 := by have := h.1.2; omega
  have hm := mon_len hn
  have hs : ∀ y ∈ rs, y.size ≤ 1048576 := fun y hy => by
    have := (step_names h y.toList (List.mem_map.2 ⟨y, hy, rfl⟩)).1.2
    have h5 := B_size y.toList
    rw [B_of] at h5
    omega
  have hr : rs.length ≤ 1048576 := by have := h.2.1.2; omega
  have e1 : (⟨#[111, 118, 101, 114, 32]⟩ : ByteArray) = B [111, 118, 101, 114, 32] := rfl
  have e2 : (⟨#[58, 32]⟩ : ByteArray) = B [58, 32] := rfl
  have e3 : (⟨#[44, 32]⟩ : ByteArray) = B [44, 32] := rfl
  have e4 : (⟨#[10]⟩ : ByteArray) = B [10] := rfl
  unfold spec_l11Step.f
  refine ev_bind (specMoney n hn) ?_
  rw [e1, e2, B_app, B_app]
  refine ev_pos (by rw [B_size]; omega) (ev_pos (by rw [B_size]; simp only [List.length_append, List.length_cons, List.length_nil]; omega) ?_)
  have hml := more_len hr hs ([111, 118, 101, 114, 32] ++ mon n ++ [58, 32])
  have hl0 : ([111, 118, 101, 114, 32] ++ mon n ++ [58, 32]).length ≤ 100 := by simp only [List.length_append, List.length_cons, List.length_nil]; omega
  refine roles_loop (F := fun k s i => spec_l11Step.l0 k s i (n : Int) rs) (rs := rs) 2000000000000 _ ?_ ?_ _ (by omega) ?_
  · intro i t hi h0 ht hE
    have hz := nm_tl hs hi
    refine Ev.step (fun _ => rfl) ?_
    simp only [spec_l11Step.l0, nmB]
    rw [e3, B_app, B_app, wrap_succ hi (by omega)]
    refine ev_pos (by omega) (ev_pos (by omega) (ev_pos (by rw [B_size]; omega) (ev_pos (by omega) (ev_pos (by rw [B_size, B_size]; simp only [List.length_append, List.length_cons, List.length_nil]; omega) hE))))
  · intro t h0 ht hE
    have hz := nm_tl hs h0
    refine Ev.step (fun _ => rfl) ?_
    simp only [spec_l11Step.l0, nmB]
    rw [B_app, wrap_succ h0 (by omega)]
    exact ev_pos (by omega) (ev_neg (by omega) (ev_pos (by omega) (ev_pos (by rw [B_size, B_size]; omega) hE)))
  · refine Ev.step (fun _ => rfl) ?_
    simp only [spec_l11Step.l0]
    rw [e4, B_app]
    refine ev_neg (by omega) (ev_pos (by rw [B_size]; omega) (ev_eq (ev_some _) ?_))
    rw [ln_more]
theorem ln_lens {x : Stp} (h : stpP x) : (ln x).length ≤ 400 := by
  unfold ln lineOf
  have h1 := smo_len x.f0
  have h2 := (jn_ok h).1
  simp only [List.length_append, List.length_cons, List.length_nil, tl]
  omega
theorem txt_len : ∀ F : List Stp, (∀ x ∈ F, stpP x) → (txt F).length ≤ F.length * 401 := by
  intro F
  induction F with
  | nil => intro _; simp [txt]
  | cons x F ih =>
    intro h
    have h1 := ih (fun y hy => h y (by simp [hy]))
    have h2 := ln_lens (h x (by simp))
    show (ln x ++ 10 :: txt F).length ≤ (F.length + 1) * 401
    simp only [List.length_append, List.length_cons]
    omega
theorem txt_app : ∀ (F G : List Stp), txt (F ++ G) = txt F ++ txt G := by
  intro F
  induction F with
  | nil => intro G; rfl
  | cons x F ih =>
    intro G
    show ln x ++ 10 :: txt (F ++ G) = (ln x ++ 10 :: txt F) ++ txt G
    rw [ih]; simp
theorem st_take {F : List Stp} {i : Nat} (hi : i < F.length) : F.take (i + 1) = F.take i ++ [st F i] := by
  rw [List.take_succ_eq_append_getElem hi]
  unfold st
  rw [List.getD_eq_getElem?_getD, List.getElem?_eq_getElem hi]
  rfl
theorem txt_take {F : List Stp} {i : Nat} (hi : i < F.length) : txt (F.take (i + 1)) = txt (F.take i) ++ (ln (st F i) ++ [10]) := by
  rw [st_take hi, txt_app]
  rfl
theorem txt_mono (F : List Stp) (i : Nat) : (txt (F.take i)).length ≤ (txt F).length := by
  have : F = F.take i ++ F.drop i := (List.take_append_drop i F).symm
  have h2 : (txt F).length = (txt (F.take i)).length + (txt (F.drop i)).length := by
    conv => lhs; rw [this, txt_app, List.length_append]
  omega
theorem E_nil : (⟨#[]⟩ : ByteArray) = B [] := rfl
theorem specShow (F : List Stp) (hs : ∀ x ∈ F, ∀ y ∈ x.f1, y.size ≤ 1048576) (hl : F.length ≤ 1048576) : Ev (fun k => spec_ShowFlow.f k F) (B (if flowP F ∧ (txt F).length ≤ 2000 then txt F else [])) := by
  unfold spec_ShowFlow.f
  have hok := specOk F (fun x hx y hy => by have := hs x hx y hy; omega)
  rw [E_nil]
  by_cases hF : flowP F
  · have hend : ∀ t : List UInt8, t = txt F → Ev (fun k => if ((B t).size : Int) > 2000 then some (B []) else some (B t)) (B (if flowP F ∧ (txt F).length ≤ 2000 then txt F else [])) := by
      intro t ht
      subst ht
      by_cases h : (txt F).length ≤ 2000
      · have e : (if flowP F ∧ (txt F).length ≤ 2000 then txt F else []) = txt F := if_pos ⟨hF, h⟩
        rw [e]
        exact ev_neg (by rw [B_size]; omega) (ev_some _)
      · have e : (if flowP F ∧ (txt F).length ≤ 2000 then txt F else []) = [] := if_neg (fun h2 => h h2.2)
        rw [e]
        exact ev_pos (by rw [B_size]; omega) (ev_some _)
    have hT := txt_len F (flow_mem hF)
    have main : ∀ (d i : Nat), i + d = F.length → Ev (fun k => spec_ShowFlow.l0 k F (B (txt (F.take i))) (i : Int)) (B (if flowP F ∧ (txt F).length ≤ 2000 then txt F else [])) := by
      intro d
      induction d with
      | zero =>
        intro i hi
        refine Ev.step (fun _ => rfl) ?_
        simp only [spec_ShowFlow.l0]
        rw [E_nil]
        exact ev_neg (by omega) (hend _ (by rw [List.take_of_length_le (by omega)]))
      | succ d ih =>
        intro i hi
        have hlt : i < F.length := by omega
        have hx : stpP (st F i) := (hF.2 i hlt).1
        have h0 : 0 ≤ (st F i).f0 := hx.1.1
        have hstep := specStep (st F i).f0.toNat (st F i).f1 (by rw [Int.toNat_of_nonneg h0]; exact hx)
        rw [Int.toNat_of_nonneg h0, ← smo_mon hx.1] at hstep
        have hm := txt_mono F i
        have hlen := ln_lens hx
        have h20 := hF.1
        refine Ev.step (fun _ => rfl) ?_
        simp only [spec_ShowFlow.l0, st_rd]
        refine ev_pos (by omega) (ev_bind hok (ev_pos (by rw [decide_eq_true_eq]; exact hF) (ev_pos (by omega) (ev_bind hstep (ev_pos ?_ ?_)))))
        · rw [B_size, B_size]
          show (txt (F.take i)).length + (ln (st F i) ++ [10]).length ≤ _
          simp only [List.length_append, List.length_cons, List.length_nil]
          omega
        · rw [B_app, wrap_succ hlt (by omega)]
          have := ih (i + 1) (by omega)
          rw [txt_take hlt] at this
          exact this
    exact main F.length 0 (by omega)
  · rw [if_neg (fun h => hF h.1)]
    refine Ev.step (fun _ => rfl) ?_
    simp only [spec_ShowFlow.l0]
    by_cases h0 : (0 : Int) < (F.length : Int)
    · refine ev_pos h0 (ev_bind hok (ev_neg (by rw [decide_eq_true_eq]; exact hF) (ev_neg (by rw [B_size]; simp) (ev_some _))))
    · exact ev_neg h0 (ev_neg (by rw [B_size]; simp) (ev_some _))
section
variable {T : ByteArray} {K F : List Stp}
theorem cmp_roles (i : Nat) (hi : i < K.length) (hl : (st F i).f1.length ≤ 1048576) (he : (st K i).f1.length = (st F i).f1.length) (R : ByteArray) (hE : ((∀ j, j < (st F i).f1.length → nm (st K i).f1 j = nm (st F i).f1 j) → Ev (fun k => impl_ShowFlow.l2 k T K F (F.length : Int) (wrap64 ((i : Int) + 1))) R))
    (hB : (¬ ∀ j, j < (st F i).f1.length → nm (st K i).f1 j = nm (st F i).f1 j) → R = B []) : Ev (fun k => impl_ShowFlow.l3 k T K (i : Int) F (F.length : Int) (i : Int) (st F i).f1 ((st F i).f1.length : Int) 0) R := by
  obtain ⟨g1, g2⟩ := ev_loop (F := fun k x => impl_ShowFlow.l3 k T K (i : Int) F (F.length : Int) (i : Int) (st F i).f1 ((st F i).f1.length : Int) x) (n := (st F i).f1.length) (p := fun j => nm (st K i).f1 j = nm (st F i).f1 j) (R := R) (bad := B [])
    (fun h => by
      refine Ev.step (fun _ => rfl) ?_
      simp only [impl_ShowFlow.l3]
      exact ev_neg (by omega) (hE h))
    (fun j r hj _ hp h => by
      refine Ev.step (fun _ => rfl) ?_
      simp only [impl_ShowFlow.l3, st_rd, nm_rd, str_iff]
      refine ev_pos (by omega) (ev_pos (by omega) (ev_pos (by omega) (ev_pos (by omega) (ev_pos (by omega) (ev_pos (by omega) (ev_pos hp ?_))))))
      rw [wrap_succ hj (by omega)]
      exact h)
    (fun j hj _ hp => by
      refine Ev.step (fun _ => rfl) ?_
      simp only [impl_ShowFlow.l3, st_rd, nm_rd, str_iff]
      exact ev_pos (by omega) (ev_pos (by omega) (ev_pos (by omega) (ev_pos (by omega) (ev_pos (by omega) (ev_pos (by omega) (ev_neg hp (ev_some _))))))))
  by_cases h : ∀ j, j < (st F i).f1.length → nm (st K i).f1 j = nm (st F i).f1 j
  · exact g1 h
  · rw [hB h]; exact g2 h
theorem roles_eq {a b : List ByteArray} (h : a.length = b.length) (k : ∀ j, j < b.length → nm a j = nm b j) : a = b := by
  apply List.ext_getElem h
  intro j h1 h2
  have := k j h2
  unfold nm at this
  rwa [List.getD_eq_getElem?_getD, List.getElem?_eq_getElem h1, List.getD_eq_getElem?_getD, List.getElem?_eq_getElem h2] at this
theorem stp_eq {a b : Stp} (h : a.f0 = b.f0) (k : a.f1 = b.f1) : a = b := by
  cases a; cases b
  simp only at h k
  rw [h, k]
theorem flow_eq {a b : List Stp} (h : a.length = b.length) (k : ∀ j, j < b.length → st a j = st b j) : a = b := by
  apply List.ext_getElem h
  intro j h1 h2
  have := k j h2
  unfold st at this
  rwa [List.getD_eq_getElem?_getD, List.getElem?_eq_getElem h1, List.getD_eq_getElem?_getD, List.getElem?_eq_getElem h2] at this
theorem j4t (i : Nat) (o : Int) (rs : List ByteArray) : Ev (fun k => impl_ShowFlow.j4 k T K (i : Int) F (F.length : Int) (i : Int) true o rs) (B []) := by
  refine Ev.step (fun _ => rfl) ?_
  simp only [impl_ShowFlow.j4]
  exact ev_pos trivial (ev_some _)
theorem cmp_all (hl : F.length ≤ 20) (he : K.length = F.length) (hr : ∀ x ∈ F, x.f1.length ≤ 1048576) : Ev (fun k => impl_ShowFlow.l2 k T K F (F.length : Int) 0) (if K = F then T else B []) := by
  obtain ⟨g1, g2⟩ := ev_loop (F := fun k x => impl_ShowFlow.l2 k T K F (F.length : Int) x) (n := F.length) (p := fun j => st K j = st F j) (R := T) (bad := B [])
    (fun _ => by
      refine Ev.step (fun _ => rfl) ?_
      simp only [impl_ShowFlow.l2]
      exact ev_neg (by omega) (ev_some _))
    (fun i r hi _ hp h => by
      have hx := hr (st F i) (mem_rd hi)
      have e : (st K i).f1.length = (st F i).f1.length := by rw [hp]
      have hj : ∀ b : Bool, b = false → Ev (fun k => impl_ShowFlow.j4 k T K (i : Int) F (F.length : Int) (i : Int) b (st F i).f0 (st F i).f1) r := by
        intro b hb
        refine Ev.step (fun _ => rfl) ?_
        simp only [impl_ShowFlow.j4]
        refine ev_neg (by simp [hb]) (cmp_roles i (by omega) hx e r (fun _ => ?_) (fun hn => absurd (fun j _ => by rw [hp]) hn))
        rw [wrap_succ hi (by omega)]
        exact h
      refine Ev.step (fun _ => rfl) ?_
      simp only [impl_ShowFlow.l2, st_rd]
      refine ev_pos (by omega) (ev_pos (by omega) (ev_pos (by omega) (ev_pos (by omega) (ev_pos (by rw [hp]) (hj _ ?_)))))
      rw [bne_eq_false_iff_eq, e])
    (fun i hi _ hp => by
      have hx := hr (st F i) (mem_rd hi)
      refine Ev.step (fun _ => rfl) ?_
      simp only [impl_ShowFlow.l2, st_rd]
      refine ev_pos (by omega) (ev_pos (by omega) (ev_pos (by omega) (ev_pos (by omega) ?_)))
      by_cases h0 : (st K i).f0 = (st F i).f0
      · refine ev_pos h0 ?_
        have hj : ∀ b : Bool, (b = false → (st K i).f1.length = (st F i).f1.length) → Ev (fun k => impl_ShowFlow.j4 k T K (i : Int) F (F.length : Int) (i : Int) b (st F i).f0 (st F i).f1) (B []) := by
          intro b hb
          by_cases h : b = true
          · subst h; exact j4t i _ _
          · have e := hb (by simpa using h)
            refine Ev.step (fun _ => rfl) ?_
            simp only [impl_ShowFlow.j4]
            exact ev_neg h (cmp_roles i (by omega) hx e _ (fun hn => absurd (stp_eq h0 (roles_eq e hn)) hp) (fun _ => rfl))
        exact hj _ (fun h => by have := bne_eq_false_iff_eq.1 h; omega)
      · exact ev_neg h0 (j4t i _ _))
  by_cases h : K = F
  · rw [if_pos h]; exact g1 (fun j _ => by rw [h])
  · rw [if_neg h]; exact g2 (fun hn => h (flow_eq he hn))
end
theorem show_end (F : List Stp) (hl : F.length ≤ 20) (hr : ∀ x ∈ F, x.f1.length ≤ 1048576) (ht : (txt F).length ≤ 2000) : Ev (fun k => impl_ShowFlow.l0 k F (B (txt F)) F (F.length : Int) (F.length : Int)) (B (if flowP F ∧ (txt F).length ≤ 2000 then txt F else [])) := by
  refine Ev.step (fun _ => rfl) ?_
  simp only [impl_ShowFlow.l0]
  refine ev_neg (by omega) ?_
  have j2t : ∀ K : List Stp, Ev (fun k => impl_ShowFlow.j2 k F (B (txt F)) K true) (B []) := by
    intro K
    refine Ev.step (fun _ => rfl) ?_
    simp only [impl_ShowFlow.j2]
    exact ev_pos trivial (ev_some _)
  have j2 : ∀ (K : List Stp) (b : Bool), (b = false → K.length = F.length) → (b = true → K ≠ F) → Ev (fun k => impl_ShowFlow.j2 k F (B (txt F)) K b) (if K = F then B (txt F) else B []) := by
    intro K b hb hb2
    by_cases h : b = true
    · rw [if_neg (hb2 h)]
      subst h
      exact j2t K
    · refine Ev.step (fun _ => rfl) ?_
      simp only [impl_ShowFlow.j2]
      exact ev_neg h (cmp_all hl (hb (by simpa using h)) hr)
  have hb : ∀ K : List Stp, Ev (fun k => impl_ShowFlow.j2 k F (B (txt F)) K ((K.length : Int) != (F.length : Int))) (if K = F then B (txt F) else B []) := fun K => j2 K _ (fun h => by have := bne_eq_false_iff_eq.1 h; omega) (fun h e => by rw [e] at h; simp at h)
  by_cases hF : flowP F
  · rw [if_pos ⟨hF, ht⟩]
    refine ev_bind (parseExact F hF ht) (ev_pos rfl (ev_eq (hb F) ?_))
    rw [if_pos rfl]
  · rw [if_neg (fun h => hF h.1)]
    obtain ⟨r, h1, h2⟩ := parseAny (txt F) ht
    refine ev_bind h1 ?_
    by_cases h3 : r.2 = 0
    · refine ev_pos h3 (ev_eq (hb r.1) ?_)
      rw [if_neg]
      intro e
      exact hF (e ▸ h2 h3)
    · exact ev_neg h3 (j2t _)
theorem implShow (F : List Stp) (hs : ∀ x ∈ F, x.f1.length ≤ 1048576 ∧ ∀ y ∈ x.f1, y.size ≤ 1048576) : Ev (fun k => impl_ShowFlow.f k F) (B (if flowP F ∧ (txt F).length ≤ 2000 then txt F else [])) := by
  unfold impl_ShowFlow.f
  rw [E_nil]
  by_cases h20 : (F.length : Int) > 20
  · rw [if_neg (fun h => by have := h.1.1; omega)]
    exact ev_pos h20 (ev_some _)
  · refine ev_neg h20 ?_
    have main : ∀ (d i : Nat), i + d = F.length → (txt (F.take i)).length ≤ 2000 → Ev (fun k => impl_ShowFlow.l0 k F (B (txt (F.take i))) F (F.length : Int) (i : Int)) (B (if flowP F ∧ (txt F).length ≤ 2000 then txt F else [])) := by
      intro d
      induction d with
      | zero =>
        intro i hi ht
        have hi' : i = F.length := by omega
        subst hi'
        rw [List.take_of_length_le (Nat.le_refl _)] at ht ⊢
        exact show_end F (by omega) (fun x hx => (hs x hx).1) ht
      | succ d ih =>
        intro i hi ht
        have hlt : i < F.length := by omega
        obtain ⟨hr, hy⟩ := hs (st F i) (mem_rd hlt)
        have hm := implMoney (st F i).f0
        have hml := smo_len (st F i).f0
        have e1 : (⟨#[111, 118, 101, 114, 32]⟩ : ByteArray) = B [111, 118, 101, 114, 32] := rfl
        have e2 : (⟨#[58, 32]⟩ : ByteArray) = B [58, 32] := rfl
        have e3 : (⟨#[44, 32]⟩ : ByteArray) = B [44, 32] := rfl
        have e4 : (⟨#[10]⟩ : ByteArray) = B [10] := rfl
        have hmo := more_len hr hy (txt (F.take i) ++ ([111, 118, 101, 114, 32] ++ smo (st F i).f0 ++ [58, 32]))
        have hl0 : (txt (F.take i) ++ ([111, 118, 101, 114, 32] ++ smo (st F i).f0 ++ [58, 32])).length ≤ 2100 := by
          simp only [List.length_append, List.length_cons, List.length_nil]; omega
        have hfull : more (st F i).f1 0 (txt (F.take i) ++ ([111, 118, 101, 114, 32] ++ smo (st F i).f0 ++ [58, 32])) ++ [10] = txt (F.take (i + 1)) := by
          rw [← more_app, ← ln_more, txt_take hlt, List.append_assoc]
          rfl
        refine Ev.step (fun _ => rfl) ?_
        simp only [impl_ShowFlow.l0, st_rd]
        refine ev_pos (by omega) (ev_pos (by omega) (ev_pos (by omega) (ev_bind hm ?_)))
        rw [e1, e2, B_app, B_app, B_app]
        refine ev_pos (by rw [B_size]; omega) (ev_pos (by rw [B_size]; simp only [List.length_append, List.length_cons, List.length_nil]; omega) (ev_pos (by rw [B_size, B_size]; simp only [List.length_append, List.length_cons, List.length_nil]; omega) ?_))
        refine roles_loop (F := fun k s j => impl_ShowFlow.l1 k F s F (F.length : Int) (i : Int) (st F i).f1 ((st F i).f1.length : Int) j) (rs := (st F i).f1) 2000000000000 _ ?_ ?_ _ (by omega) ?_
        · intro j t hj h0 hT hE
          have hz := nm_tl hy hj
          refine Ev.step (fun _ => rfl) ?_
          simp only [impl_ShowFlow.l1, nmB]
          rw [e3, B_app, B_app, wrap_succ hj (by omega)]
          exact ev_pos (by omega) (ev_pos (by omega) (ev_pos (by omega) (ev_pos (by omega) (ev_pos (by rw [B_size]; omega) (ev_pos (by rw [B_size, B_size]; simp only [List.length_append, List.length_cons, List.length_nil]; omega) hE)))))
        · intro t h0 hT hE
          have hz := nm_tl hy h0
          refine Ev.step (fun _ => rfl) ?_
          simp only [impl_ShowFlow.l1, nmB]
          rw [B_app, wrap_succ h0 (by omega)]
          exact ev_pos (by omega) (ev_pos (by omega) (ev_pos (by omega) (ev_neg (by omega) (ev_pos (by rw [B_size, B_size]; omega) hE))))
        · refine Ev.step (fun _ => rfl) ?_
          simp only [impl_ShowFlow.l1]
          rw [e4, B_app, hfull, E_nil]
          refine ev_neg (by omega) (ev_pos (by rw [B_size]; omega) ?_)
          by_cases h5 : (txt (F.take (i + 1))).length ≤ 2000
          · refine ev_neg (by rw [B_size]; omega) ?_
            rw [wrap_succ hlt (by omega)]
            exact ih (i + 1) (by omega) h5
          · have h6 := txt_mono F (i + 1)
            rw [if_neg (fun h => by have := h.2; omega)]
            exact ev_pos (by rw [B_size]; omega) (ev_some _)
    exact main F.length 0 (by omega) (by simp [txt])
end Go.Proofs.Ytfkakbpjddgmeaa.PFnFlowBack
