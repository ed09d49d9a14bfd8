import Derived.Test.YtmpknbdbichdiaaBSpecReadFnExactReadBank
set_option linter.unusedVariables false
set_option linter.unusedSimpArgs false
namespace Go.Proofs.Ytmpknbdbichdiaa.PFnExactReadBank
open Go Go.RowKit Go.Proofs.YtmpknbdbichdiaaW.PrintWords Go.Proofs.YtmpknbdbichdiaaW.PrintLast Go.Proofs.Ytmpknbdbichdiaa.MapWords Go.Proofs.Ytmpknbdbichdiaa.IterWords Go.Proofs.Ytmpknbdbichdiaa.EvWords
open Classical
def fl1 : List UInt8 → Option (List UInt8 × List UInt8)
  | [] => none
  | c :: r => if c = 10 then some ([], r) else match fl1 r with
    | none => none
    | some (a, b) => some (c :: a, b)
theorem fl1_some : ∀ (l a b : List UInt8), fl1 l = some (a, b) → l = a ++ 10 :: b := by
  intro l
  induction l with
  | nil => intro a b h; cases h
  | cons c r ih =>
    intro a b h
    rw [fl1] at h
    by_cases hc : c = 10
    · rw [if_pos hc] at h
      injection h with h
      injection h with h1 h2
      rw [← h1, ← h2, hc]; rfl
    · rw [if_neg hc] at h
      cases hr : fl1 r with
      | none => rw [hr] at h; cases h
      | some ab =>
        obtain ⟨a', b'⟩ := ab
        rw [hr] at h
        injection h with h
        injection h with h1 h2
        rw [← h1, ← h2, ih a' b' hr]; rfl
theorem lns_fl : ∀ (r cur : List UInt8), lns cur r = match fl1 r with
    | some (a, b) => (cur ++ a ++ [10]) :: lns [] b
    | none => if cur ++ r = [] then [] else [cur ++ r] := by
  intro r
  induction r with
  | nil => intro cur; rw [lns, fl1, List.append_nil]
  | cons c r ih =>
    intro cur
    rw [lns, fl1]
    by_cases hc : c = 10
    · rw [if_pos hc, if_pos hc]; simp
    · rw [if_neg hc, if_neg hc, ih]
      cases fl1 r with
      | none => simp
      | some ab => obtain ⟨a, b⟩ := ab; simp
def flR (pre l : List UInt8) : Option (List UInt8 × List UInt8) → ByteArray × ByteArray × Bool
  | some (a, b) => (B (pre ++ a), B b, true)
  | none => (B l, B [], false)
theorem first_loop (l : List UInt8) (hl : l.length ≤ 1100000) : ∀ (r pre : List UInt8), l = pre ++ r → Ev (fun k => impl_firstLine.l0 k (B l) ((pre.length : Nat) : Int)) (flR pre l (fl1 r)) := by
  intro r
  induction r with
  | nil =>
    intro pre he
    rw [List.append_nil] at he
    refine Ev.step (fun _ => rfl) ?_
    simp only [impl_firstLine.l0]
    exact ev_neg (by rw [B_size, he]; omega) (ev_some _)
  | cons c r ih =>
    intro pre he
    have hz : l.length = pre.length + (r.length + 1) := by rw [he]; simp only [List.length_append, List.length_cons]
    have hb : bt (B l) ((pre.length : Nat) : Int) = (c.toNat : Int) := by rw [he]; exact bt_mid _ _ _
    have hw : wrap64 (((pre.length : Nat) : Int) + 1) = ((pre.length + 1 : Nat) : Int) := by rw [wrap_id (by omega) (by omega)]; omega
    refine Ev.step (fun _ => rfl) ?_
    simp only [impl_firstLine.l0]
    rw [hb, hw, fl1]
    refine ev_pos (by rw [B_size]; omega) (ev_pos (by omega) ?_)
    by_cases hc : c = 10
    · rw [if_pos hc]
      refine ev_pos ((u8_eq c 10 (by omega)).2 hc) (ev_pos (by rw [B_size]; omega) (ev_pos (by omega) (ev_pos (by rw [B_size]; omega) (ev_eq (ev_some _) ?_))))
      have e1 : (B l).extract 0 ((pre.length : Nat) : Int).toNat = B (pre ++ []) := by
        rw [B_ext, Int.toNat_natCast, he]; simp
      have e2 : (B l).extract ((pre.length + 1 : Nat) : Int).toNat (B l).size = B r := by
        rw [B_ext, Int.toNat_natCast, B_size, he, show pre ++ c :: r = (pre ++ [c]) ++ r by simp, List.drop_left' (by simp), List.take_of_length_le]
        simp only [List.length_append, List.length_cons, List.length_nil]; omega
      rw [e1, e2]; rfl
    · rw [if_neg hc]
      refine ev_neg (fun h => hc ((u8_eq c 10 (by omega)).1 h)) ?_
      have := ih (pre ++ [c]) (by rw [he]; simp)
      rw [show (pre ++ [c]).length = pre.length + 1 by simp] at this
      refine ev_eq this ?_
      cases fl1 r with
      | none => rfl
      | some ab => obtain ⟨a, b⟩ := ab; simp [flR]
theorem implFirst (l : List UInt8) (hl : l.length ≤ 1100000) : Ev (fun k => impl_firstLine.f k (B l)) (flR [] l (fl1 l)) := first_loop l hl l [] rfl
def isC (c : UInt8) : Prop := 65 ≤ c.toNat ∧ c.toNat ≤ 90
def anP (l : List UInt8) : Prop := ∀ c ∈ l, isD c ∨ isC c
def md : Nat → List UInt8 → Nat
  | v, [] => v
  | v, c :: r => md (if 48 ≤ c.toNat ∧ c.toNat ≤ 57 then (v * 10 + (c.toNat - 48)) % 97 else (v * 100 + (c.toNat - 65) + 10) % 97) r
theorem an_cons {c : UInt8} {r : List UInt8} : anP (c :: r) ↔ (isD c ∨ isC c) ∧ anP r := by
  unfold anP
  simp
theorem cap_eq (x : Int) : impl_capital.f x = some (decide (65 ≤ x ∧ x ≤ 90)) := by
  unfold impl_capital.f
  by_cases h : x ≥ 65
  · rw [if_pos h]; congr 1; rw [decide_eq_decide]; omega
  · rw [if_neg h]; congr 1; symm; rw [decide_eq_false_iff_not]; omega
theorem dig_eq (x : Int) : impl_digit.f x = some (decide (48 ≤ x ∧ x ≤ 57)) := by
  unfold impl_digit.f
  by_cases h : x ≥ 48
  · rw [if_pos h]; congr 1; rw [decide_eq_decide]; omega
  · rw [if_neg h]; congr 1; symm; rw [decide_eq_false_iff_not]; omega
theorem big_eq (x : Int) : spec_l14Big.f x = some (decide (65 ≤ x ∧ x ≤ 90)) := by
  unfold spec_l14Big.f
  by_cases h : x ≥ 65
  · rw [if_pos h]; congr 1; rw [decide_eq_decide]; omega
  · rw [if_neg h]; congr 1; symm; rw [decide_eq_false_iff_not]; omega
theorem l9dig_eq (x : Int) : spec_l9Digit.f x = some (decide (48 ≤ x ∧ x ≤ 57)) := by
  unfold spec_l9Digit.f
  by_cases h : x ≥ 48
  · rw [if_pos h]; congr 1; rw [decide_eq_decide]; omega
  · rw [if_neg h]; congr 1; symm; rw [decide_eq_false_iff_not]; omega
theorem wrap32_id {x : Int} (h0 : -2147483648 ≤ x) (h1 : x ≤ 2147483647) : wrap32 x = x := by unfold wrap32; omega
theorem itr_c (l q r : List UInt8) (c : UInt8) (he : l = q ++ c :: r) : (c.toNat < 128 → itr (B l) ((q.length : Nat) : Int) = (c.toNat : Int)) ∧ (¬ c.toNat < 128 → 128 ≤ itr (B l) ((q.length : Nat) : Int)) := by
  have hlt : q.length < (B l).size := by rw [B_size, he]; simp
  have hg : ((B l)[q.length]'hlt) = c := by
    subst he
    have h1 := bt_at (B (q ++ c :: r)) ((q.length : Nat) : Int) (by rw [Int.toNat_natCast]; exact hlt)
    rw [bt_mid] at h1
    apply UInt8.toNat_inj.1
    exact Int.ofNat.inj h1
  have e : itr (B l) ((q.length : Nat) : Int) = (((Utf8.decode (B l) q.length).1 : Nat) : Int) := by
    show (((Utf8.decode (B l) (itn ((q.length : Nat) : Int))).1 : Nat) : Int) = _
    rw [itn_n]
  rw [e]
  constructor
  · intro h
    rw [decode_ascii (B l) q.length hlt (by rw [hg]; exact h), hg]
  · intro h
    have := (decode_high (B l) q.length hlt (by rw [hg]; omega)).1
    omega
theorem itr_le (s : ByteArray) (x : Int) : itr s x ≤ 2147483647 := by
  have := decode_le s (itn x)
  unfold itr
  omega
theorem r97_loop (l : List UInt8) (hl : l.length ≤ 1100000) : ∀ (r pre : List UInt8) (v : Nat), l = pre ++ r → v < 97 → Ev (fun k => impl_rest97.l0 k (v : Int) ((pre.length : Nat) : Int) (B l)) (if anP r then (md v r : Int) else -1) := by
  intro r
  induction r with
  | nil =>
    intro pre v he hv
    rw [List.append_nil] at he
    refine Ev.step (fun _ => rfl) ?_
    simp only [impl_rest97.l0]
    have h0 : anP [] := fun c hc => by cases hc
    rw [if_pos h0]
    exact ev_neg (by rw [itp_n, itn_n, B_size, he]; omega) (ev_some _)
  | cons c r ih =>
    intro pre v he hv
    have hz : l.length = pre.length + (r.length + 1) := by rw [he]; simp only [List.length_append, List.length_cons]
    obtain ⟨hr1, hr2⟩ := itr_c l pre r c he
    have hr3 := itr_le (B l) ((pre.length : Nat) : Int)
    refine Ev.step (fun _ => rfl) ?_
    simp only [impl_rest97.l0]
    refine ev_pos (by rw [itp_n, itn_n, B_size]; omega) ?_
    by_cases h128 : c.toNat < 128
    · have hw := itw1 l pre r c he h128
      rw [hr1 h128, hw]
      have ih' := fun v hv => ih (pre ++ [c]) v (by rw [he]; simp) hv
      rw [show (pre ++ [c]).length = pre.length + 1 by simp] at ih'
      have hj : ∀ b : Bool, b = decide (48 ≤ c.toNat ∧ c.toNat ≤ 57) → Ev (fun k => impl_rest97.j1 k (v : Int) (c.toNat : Int) b ((pre.length + 1 : Nat) : Int) (B l)) (if anP (c :: r) then (md v (c :: r) : Int) else -1) := by
        intro b hb
        refine Ev.step (fun _ => rfl) ?_
        simp only [impl_rest97.j1]
        by_cases hd : 48 ≤ c.toNat ∧ c.toNat ≤ 57
        · refine ev_pos (by rw [hb, decide_eq_true_eq]; exact hd) ?_
          have e : Int.tmod (wrap64 (wrap64 ((v : Int) * 10) + wrap64 (wrap32 ((c.toNat : Int) - 48)))) 97 = (((v * 10 + (c.toNat - 48)) % 97 : Nat) : Int) := by
            rw [wrap32_id (by omega) (by omega), wrap_id (x := (v : Int) * 10) (by omega) (by omega), wrap_id (x := (c.toNat : Int) - 48) (by omega) (by omega), wrap_id (by omega) (by omega), Int.tmod_eq_emod_of_nonneg (by omega)]
            omega
          rw [e]
          refine ev_eq (ih' _ (by omega)) ?_
          have e2 : md v (c :: r) = md ((v * 10 + (c.toNat - 48)) % 97) r := by rw [md, if_pos hd]
          rw [e2]
          by_cases ha : anP r
          · rw [if_pos ha, if_pos (an_cons.2 ⟨Or.inl hd, ha⟩)]
          · rw [if_neg ha, if_neg (fun h => ha (an_cons.1 h).2)]
        · refine ev_neg (by rw [hb, decide_eq_true_eq]; exact hd) (ev_bind0 (cap_eq _) ?_)
          by_cases hc : 65 ≤ c.toNat ∧ c.toNat ≤ 90
          · refine ev_pos (by rw [decide_eq_true_eq]; omega) ?_
            have e : Int.tmod (wrap64 (wrap64 (wrap64 ((v : Int) * 100) + wrap64 (wrap32 ((c.toNat : Int) - 65))) + 10)) 97 = (((v * 100 + (c.toNat - 65) + 10) % 97 : Nat) : Int) := by
              rw [wrap32_id (by omega) (by omega), wrap_id (x := (v : Int) * 100) (by omega) (by omega), wrap_id (x := (c.toNat : Int) - 65) (by omega) (by omega), wrap_id (x := (v : Int) * 100 + ((c.toNat : Int) - 65)) (by omega) (by omega), wrap_id (by omega) (by omega), Int.tmod_eq_emod_of_nonneg (by omega)]
              omega
            rw [e]
            refine ev_eq (ih' _ (by omega)) ?_
            have e2 : md v (c :: r) = md ((v * 100 + (c.toNat - 65) + 10) % 97) r := by rw [md, if_neg hd]
            rw [e2]
            by_cases ha : anP r
            · rw [if_pos ha, if_pos (an_cons.2 ⟨Or.inr hc, ha⟩)]
            · rw [if_neg ha, if_neg (fun h => ha (an_cons.1 h).2)]
          · rw [if_neg (fun h => (an_cons.1 h).1.elim (fun h => hd h) (fun h => hc h))]
            exact ev_neg (by rw [decide_eq_true_eq]; omega) (ev_some _)
      by_cases h48 : (c.toNat : Int) ≥ 48
      · refine ev_pos h48 (hj _ ?_)
        rw [decide_eq_decide]; omega
      · refine ev_neg h48 (hj _ ?_)
        symm; rw [decide_eq_false_iff_not]; omega
    · have h1 := hr2 h128
      rw [if_neg (fun h => (an_cons.1 h).1.elim (fun h => by unfold isD at h; omega) (fun h => by unfold isC at h; omega))]
      generalize itr (B l) ((pre.length : Nat) : Int) = x at *
      generalize itw (B l) ((pre.length : Nat) : Int) = y at *
      refine ev_pos (by omega) ?_
      have hj : ∀ b : Bool, b = false → Ev (fun k => impl_rest97.j1 k (v : Int) x b y (B l)) (-1) := by
        intro b hb
        refine Ev.step (fun _ => rfl) ?_
        simp only [impl_rest97.j1]
        exact ev_neg (by simp [hb]) (ev_bind0 (cap_eq _) (ev_neg (by rw [decide_eq_true_eq]; omega) (ev_some _)))
      refine hj _ ?_
      rw [decide_eq_false_iff_not]; omega
theorem impl97 (l : List UInt8) (hl : l.length ≤ 1100000) : Ev (fun k => impl_rest97.f k (B l)) (if anP l then (md 0 l : Int) else -1) := r97_loop l hl l [] 0 rfl (by omega)
theorem rest_loop (l : List UInt8) (hl : l.length ≤ 1100000) : ∀ (r pre : List UInt8), l = pre ++ r → Ev (fun k => spec_l14Rest.l0 k (B l) ((pre.length : Nat) : Int)) (decide (anP r)) := by
  intro r
  induction r with
  | nil =>
    intro pre he
    rw [List.append_nil] at he
    refine Ev.step (fun _ => rfl) ?_
    simp only [spec_l14Rest.l0]
    refine ev_neg (by rw [B_size, he]; omega) (ev_eq (ev_some _) ?_)
    symm; rw [decide_eq_true_eq]
    exact fun c hc => by cases hc
  | cons c r ih =>
    intro pre he
    have hz : l.length = pre.length + (r.length + 1) := by rw [he]; simp only [List.length_append, List.length_cons]
    have hb : bt (B l) ((pre.length : Nat) : Int) = (c.toNat : Int) := by rw [he]; exact bt_mid _ _ _
    have hw : wrap64 (((pre.length : Nat) : Int) + 1) = ((pre.length + 1 : Nat) : Int) := by rw [wrap_id (by omega) (by omega)]; omega
    have ih' := ih (pre ++ [c]) (by rw [he]; simp)
    rw [show (pre ++ [c]).length = pre.length + 1 by simp] at ih'
    refine Ev.step (fun _ => rfl) ?_
    simp only [spec_l14Rest.l0]
    rw [hb, hw]
    refine ev_pos (by rw [B_size]; omega) (ev_pos (by omega) (ev_bind0 (big_eq _) ?_))
    by_cases hc : isC c
    · refine ev_pos (by rw [decide_eq_true_eq]; unfold isC at hc; omega) (ev_eq ih' ?_)
      rw [decide_eq_decide]
      exact ⟨fun h => an_cons.2 ⟨Or.inr hc, h⟩, fun h => (an_cons.1 h).2⟩
    · refine ev_neg (by rw [decide_eq_true_eq]; unfold isC at hc; omega) (ev_bind0 (l9dig_eq _) ?_)
      by_cases hd : isD c
      · refine ev_pos (by rw [decide_eq_true_eq]; unfold isD at hd; omega) (ev_eq ih' ?_)
        rw [decide_eq_decide]
        exact ⟨fun h => an_cons.2 ⟨Or.inl hd, h⟩, fun h => (an_cons.1 h).2⟩
      · refine ev_neg (by rw [decide_eq_true_eq]; unfold isD at hd; omega) (ev_eq (ev_some _) ?_)
        symm; rw [decide_eq_false_iff_not]
        exact fun h => (an_cons.1 h).1.elim hd hc
theorem specRest (l : List UInt8) (hl : l.length ≤ 1100000) : Ev (fun k => spec_l14Rest.f k (B l)) (decide (anP l)) := rest_loop l hl l [] rfl
theorem mod_loop (l : List UInt8) (hl : l.length ≤ 1100000) : ∀ (r pre : List UInt8) (v : Nat), l = pre ++ r → v < 97 → anP r → Ev (fun k => spec_l14Mod.l0 k (B l) (v : Int) ((pre.length : Nat) : Int)) (md v r : Int) := by
  intro r
  induction r with
  | nil =>
    intro pre v he _ _
    rw [List.append_nil] at he
    refine Ev.step (fun _ => rfl) ?_
    simp only [spec_l14Mod.l0]
    exact ev_neg (by rw [B_size, he]; omega) (ev_some _)
  | cons c r ih =>
    intro pre v he hv ha
    have hz : l.length = pre.length + (r.length + 1) := by rw [he]; simp only [List.length_append, List.length_cons]
    have hb : bt (B l) ((pre.length : Nat) : Int) = (c.toNat : Int) := by rw [he]; exact bt_mid _ _ _
    have hw : wrap64 (((pre.length : Nat) : Int) + 1) = ((pre.length + 1 : Nat) : Int) := by rw [wrap_id (by omega) (by omega)]; omega
    obtain ⟨hc, ha'⟩ := an_cons.1 ha
    have ih' := fun v hv => ih (pre ++ [c]) v (by rw [he]; simp) hv ha'
    rw [show (pre ++ [c]).length = pre.length + 1 by simp] at ih'
    refine Ev.step (fun _ => rfl) ?_
    simp only [spec_l14Mod.l0]
    rw [hb, hw]
    refine ev_pos (by rw [B_size]; omega) (ev_pos (by omega) (ev_bind0 (l9dig_eq _) ?_))
    by_cases hd : 48 ≤ c.toNat ∧ c.toNat ≤ 57
    · refine ev_pos (by rw [decide_eq_true_eq]; omega) ?_
      have e : Int.tmod (wrap64 (wrap64 ((v : Int) * 10) + (((c.toNat : Int) - 48) % 256))) 97 = (((v * 10 + (c.toNat - 48)) % 97 : Nat) : Int) := by
        rw [wrap_id (x := (v : Int) * 10) (by omega) (by omega), wrap_id (by omega) (by omega), Int.tmod_eq_emod_of_nonneg (by omega)]
        omega
      rw [e]
      refine ev_eq (ih' _ (by omega)) ?_
      rw [md, if_pos hd]
    · have hc2 : 65 ≤ c.toNat ∧ c.toNat ≤ 90 := hc.elim (fun h => absurd h hd) (fun h => h)
      refine ev_neg (by rw [decide_eq_true_eq]; omega) ?_
      have e : Int.tmod (wrap64 (wrap64 (wrap64 ((v : Int) * 100) + (((c.toNat : Int) - 65) % 256)) + 10)) 97 = (((v * 100 + (c.toNat - 65) + 10) % 97 : Nat) : Int) := by
        rw [wrap_id (x := (v : Int) * 100) (by omega) (by omega), wrap_id (x := (v : Int) * 100 + (((c.toNat : Int) - 65) % 256)) (by omega) (by omega), wrap_id (by omega) (by omega), Int.tmod_eq_emod_of_nonneg (by omega)]
        omega
      rw [e]
      refine ev_eq (ih' _ (by omega)) ?_
      rw [md, if_neg hd]
theorem specMod (l : List UInt8) (hl : l.length ≤ 1100000) (ha : anP l) : Ev (fun k => spec_l14Mod.f k (B l)) (md 0 l : Int) := mod_loop l hl l [] 0 rfl (by omega) ha
def acctP (l : List UInt8) : Prop := (8 ≤ l.length ∧ l.length ≤ 30) ∧ anP l ∧ isC (l.getD 0 0) ∧ isC (l.getD 1 0) ∧ isD (l.getD 2 0) ∧ isD (l.getD 3 0) ∧ md 0 (l.drop 4 ++ l.take 4) = 1
theorem an_rot (l : List UInt8) : anP (l.drop 4 ++ l.take 4) ↔ anP l := by
  unfold anP
  constructor
  · intro h c hc
    rw [← List.take_append_drop 4 l] at hc
    rcases List.mem_append.1 hc with hc | hc
    · exact h c (List.mem_append.2 (Or.inr hc))
    · exact h c (List.mem_append.2 (Or.inl hc))
  · intro h c hc
    rcases List.mem_append.1 hc with hc | hc
    · exact h c (List.mem_of_mem_drop hc)
    · exact h c (List.mem_of_mem_take hc)
theorem bt_get (l : List UInt8) (i : Nat) (h : i < l.length) : bt (B l) (i : Int) = ((l.getD i 0).toNat : Int) := by
  rw [B_bt l i h, List.getD_eq_getElem?_getD, List.getElem?_eq_getElem h]
  rfl
theorem rot_B (l : List UInt8) (h : 4 ≤ l.length) : (B l).extract 4 (B l).size ++ (B l).extract 0 4 = B (l.drop 4 ++ l.take 4) := by
  rw [B_ext, B_ext, B_app, B_size, List.take_of_length_le (by rw [List.length_drop]; exact Nat.le_refl _)]
  simp
theorem implAcct (l : List UInt8) (hl : l.length ≤ 1100000) : Ev (fun k => impl_AccountNumber.f k (B l)) (decide (acctP l)) := by
  unfold impl_AccountNumber.f
  by_cases h8 : l.length < 8
  · refine ev_pos (by rw [B_size]; omega) (ev_eq (ev_some _) ?_)
    symm; rw [decide_eq_false_iff_not]; exact fun h => by have := h.1.1; omega
  · refine ev_neg (by rw [B_size]; omega) ?_
    by_cases h30 : l.length > 30
    · refine ev_pos (by rw [B_size]; omega) (ev_eq (ev_some _) ?_)
      symm; rw [decide_eq_false_iff_not]; exact fun h => by have := h.1.2; omega
    · refine ev_neg (by rw [B_size]; omega) (ev_pos (by omega) (ev_pos (by rw [B_size]; omega) ?_))
      have b0 := bt_get (l.take 2) 0 (by rw [List.length_take]; omega)
      have b1 := bt_get (l.take 2) 1 (by rw [List.length_take]; omega)
      have g0 : (l.take 2).getD 0 0 = l.getD 0 0 := by rw [List.getD_eq_getElem?_getD, List.getD_eq_getElem?_getD, List.getElem?_take_of_lt (by omega)]
      have g1 : (l.take 2).getD 1 0 = l.getD 1 0 := by rw [List.getD_eq_getElem?_getD, List.getD_eq_getElem?_getD, List.getElem?_take_of_lt (by omega)]
      rw [g0] at b0
      rw [g1] at b1
      have c0 : (l.getD 0 0).toNat < 256 := UInt8.toNat_lt _
      have c1 : (l.getD 1 0).toNat < 256 := UInt8.toNat_lt _
      have hland : impl_landOk.f ((B l).extract 0 2) = some (decide (isC (l.getD 0 0) ∧ isC (l.getD 1 0))) := by
        have e : (B l).extract 0 2 = B (l.take 2) := by rw [B_ext]; rfl
        have hz : ((B (l.take 2)).size : Int) = 2 := by rw [B_size, List.length_take]; omega
        rw [e]
        unfold impl_landOk.f
        rw [hz, if_pos rfl, if_pos (by omega)]
        rw [show bt (B (l.take 2)) 0 = ((l.getD 0 0).toNat : Int) from b0, show bt (B (l.take 2)) 1 = ((l.getD 1 0).toNat : Int) from b1, wrap32_id (by omega) (by omega), wrap32_id (by omega) (by omega), cap_eq, cap_eq, Option.bind_some, Option.bind_some]
        unfold isC
        by_cases hc : 65 ≤ (l.getD 0 0).toNat ∧ (l.getD 0 0).toNat ≤ 90
        · rw [if_pos (by rw [decide_eq_true_eq]; omega), if_pos (by omega)]
          congr 1
          rw [decide_eq_decide]; omega
        · rw [if_neg (by rw [decide_eq_true_eq]; omega)]
          congr 1
          symm; rw [decide_eq_false_iff_not]; omega
      refine ev_bind0 hland ?_
      by_cases hc : isC (l.getD 0 0) ∧ isC (l.getD 1 0)
      · refine ev_pos (by rw [decide_eq_true_eq]; exact hc) (ev_pos (by rw [B_size]; omega) ?_)
        rw [show bt (B l) 2 = ((l.getD 2 0).toNat : Int) from bt_get l 2 (by omega), show bt (B l) 3 = ((l.getD 3 0).toNat : Int) from bt_get l 3 (by omega)]
        refine ev_bind0 (dig_eq _) ?_
        by_cases hd2 : isD (l.getD 2 0)
        · refine ev_pos (by rw [decide_eq_true_eq]; unfold isD at hd2; omega) (ev_pos (by rw [B_size]; omega) (ev_bind0 (dig_eq _) ?_))
          by_cases hd3 : isD (l.getD 3 0)
          · refine ev_pos (by rw [decide_eq_true_eq]; unfold isD at hd3; omega) (ev_pos (by rw [B_size]; omega) (ev_pos (by omega) (ev_pos ?_ ?_)))
            · rw [ByteArray.size_extract, ByteArray.size_extract, B_size]; omega
            · rw [rot_B l (by omega)]
              refine ev_bind (impl97 _ (by rw [List.length_append, List.length_drop, List.length_take]; omega)) (ev_eq (ev_some _) ?_)
              by_cases ha : anP l
              · rw [if_pos ((an_rot l).2 ha)]
                by_cases hm : md 0 (l.drop 4 ++ l.take 4) = 1
                · rw [hm]
                  symm; rw [show (((1 : Nat) : Int) == 1) = true from rfl, decide_eq_true_eq]
                  exact ⟨by omega, ha, hc.1, hc.2, hd2, hd3, hm⟩
                · have : (((md 0 (l.drop 4 ++ l.take 4) : Nat) : Int) == 1) = false := by rw [beq_eq_false_iff_ne]; omega
                  rw [this]
                  symm; rw [decide_eq_false_iff_not]
                  exact fun h => hm h.2.2.2.2.2.2
              · rw [if_neg (fun h => ha ((an_rot l).1 h))]
                symm; rw [show ((-1 : Int) == 1) = false from rfl, decide_eq_false_iff_not]
                exact fun h => ha h.2.1
          · refine ev_neg (by rw [decide_eq_true_eq]; unfold isD at hd3; omega) (ev_eq (ev_some _) ?_)
            symm; rw [decide_eq_false_iff_not]; exact fun h => hd3 h.2.2.2.2.2.1
        · refine ev_neg (by rw [decide_eq_true_eq]; unfold isD at hd2; omega) (ev_eq (ev_some _) ?_)
          symm; rw [decide_eq_false_iff_not]; exact fun h => hd2 h.2.2.2.2.1
      · refine ev_neg (by rw [decide_eq_true_eq]; exact hc) (ev_eq (ev_some _) ?_)
        symm; rw [decide_eq_false_iff_not]; exact fun h => hc ⟨h.2.2.1, h.2.2.2.1⟩
theorem specAcct (l : List UInt8) (hl : l.length ≤ 1100000) : Ev (fun k => spec_AccountNumber.f k (B l)) (decide (acctP l)) := by
  unfold spec_AccountNumber.f
  refine ev_bind0 (l1In_eq _ _ _) ?_
  have no : ∀ {P : Prop}, (acctP l → P) → ¬ P → Ev (fun _ => some false) (decide (acctP l)) := fun h k => by
    refine ev_eq (ev_some _) ?_
    symm; rw [decide_eq_false_iff_not]; exact fun g => k (h g)
  by_cases h8 : 8 ≤ l.length ∧ l.length ≤ 30
  · refine ev_pos (by rw [decide_eq_true_eq, B_size]; omega) (ev_bind (specRest l hl) ?_)
    by_cases ha : anP l
    · refine ev_pos (by rw [decide_eq_true_eq]; exact ha) (ev_pos (by rw [B_size]; omega) ?_)
      rw [show bt (B l) 0 = ((l.getD 0 0).toNat : Int) from bt_get l 0 (by omega), show bt (B l) 1 = ((l.getD 1 0).toNat : Int) from bt_get l 1 (by omega), show bt (B l) 2 = ((l.getD 2 0).toNat : Int) from bt_get l 2 (by omega), show bt (B l) 3 = ((l.getD 3 0).toNat : Int) from bt_get l 3 (by omega)]
      refine ev_bind0 (big_eq _) ?_
      by_cases h0 : isC (l.getD 0 0)
      · refine ev_pos (by rw [decide_eq_true_eq]; unfold isC at h0; omega) (ev_pos (by rw [B_size]; omega) (ev_bind0 (big_eq _) ?_))
        by_cases h1 : isC (l.getD 1 0)
        · refine ev_pos (by rw [decide_eq_true_eq]; unfold isC at h1; omega) (ev_pos (by rw [B_size]; omega) (ev_bind0 (l9dig_eq _) ?_))
          by_cases h2 : isD (l.getD 2 0)
          · refine ev_pos (by rw [decide_eq_true_eq]; unfold isD at h2; omega) (ev_pos (by rw [B_size]; omega) (ev_bind0 (l9dig_eq _) ?_))
            by_cases h3 : isD (l.getD 3 0)
            · refine ev_pos (by rw [decide_eq_true_eq]; unfold isD at h3; omega) (ev_pos (by rw [B_size]; omega) (ev_pos (by omega) (ev_pos ?_ ?_)))
              · rw [ByteArray.size_extract, ByteArray.size_extract, B_size]; omega
              · rw [rot_B l (by omega)]
                refine ev_bind (specMod _ (by rw [List.length_append, List.length_drop, List.length_take]; omega) ((an_rot l).2 ha)) (ev_eq (ev_some _) ?_)
                by_cases hm : md 0 (l.drop 4 ++ l.take 4) = 1
                · rw [hm]
                  symm; rw [show (((1 : Nat) : Int) == 1) = true from rfl, decide_eq_true_eq]
                  exact ⟨h8, ha, h0, h1, h2, h3, hm⟩
                · have : (((md 0 (l.drop 4 ++ l.take 4) : Nat) : Int) == 1) = false := by rw [beq_eq_false_iff_ne]; omega
                  rw [this]
                  symm; rw [decide_eq_false_iff_not]
                  exact fun h => hm h.2.2.2.2.2.2
            · exact ev_neg (by rw [decide_eq_true_eq]; unfold isD at h3; omega) (no (fun h => h.2.2.2.2.2.1) h3)
          · exact ev_neg (by rw [decide_eq_true_eq]; unfold isD at h2; omega) (no (fun h => h.2.2.2.2.1) h2)
        · exact ev_neg (by rw [decide_eq_true_eq]; unfold isC at h1; omega) (no (fun h => h.2.2.2.1) h1)
      · exact ev_neg (by rw [decide_eq_true_eq]; unfold isC at h0; omega) (no (fun h => h.2.2.1) h0)
    · exact ev_neg (by rw [decide_eq_true_eq]; exact ha) (no (fun h => h.2.1) ha)
  · exact ev_neg (by rw [decide_eq_true_eq, B_size]; omega) (no (fun h => h.1) h8)
def bck : Nat → List UInt8 → Nat
  | v, [] => v
  | v, c :: r => bck ((31 * v + c.toNat) % 65521) r
theorem bck_lt : ∀ (r : List UInt8) (v : Nat), v < 65521 → bck v r < 65521 := by
  intro r
  induction r with
  | nil => intro v h; exact h
  | cons c r ih => intro v _; exact ih _ (by omega)
theorem bck_e (v : Nat) (c : UInt8) (hv : v < 65521) : Int.tmod (wrap64 (wrap64 (31 * (v : Int)) + wrap64 (c.toNat : Int))) 65521 = (((31 * v + c.toNat) % 65521 : Nat) : Int) := by
  have hc : c.toNat < 256 := c.toNat_lt
  rw [wrap_id (x := 31 * (v : Int)) (by omega) (by omega), wrap_id (x := (c.toNat : Int)) (by omega) (by omega), wrap_id (by omega) (by omega), Int.tmod_eq_emod_of_nonneg (by omega)]
  omega
theorem implCk (l : List UInt8) (hl : l.length ≤ 1100000) : Ev (fun k => impl_bankCheck.f k (B l)) (bck 7 l : Int) := by
  have main : ∀ (r pre : List UInt8) (v : Nat), l = pre ++ r → v < 65521 → Ev (fun k => impl_bankCheck.l0 k (B l) (v : Int) ((pre.length : Nat) : Int)) (bck v r : Int) := by
    intro r
    induction r with
    | nil =>
      intro pre v he _
      rw [List.append_nil] at he
      refine Ev.step (fun _ => rfl) ?_
      simp only [impl_bankCheck.l0]
      exact ev_neg (by rw [B_size, he]; omega) (ev_some _)
    | cons c r ih =>
      intro pre v he hv
      have hz : l.length = pre.length + (r.length + 1) := by rw [he]; simp only [List.length_append, List.length_cons]
      have hb : bt (B l) ((pre.length : Nat) : Int) = (c.toNat : Int) := by rw [he]; exact bt_mid _ _ _
      have hw : wrap64 (((pre.length : Nat) : Int) + 1) = ((pre.length + 1 : Nat) : Int) := by rw [wrap_id (by omega) (by omega)]; omega
      have ih' := ih (pre ++ [c]) ((31 * v + c.toNat) % 65521) (by rw [he]; simp) (by omega)
      rw [show (pre ++ [c]).length = pre.length + 1 by simp] at ih'
      refine Ev.step (fun _ => rfl) ?_
      simp only [impl_bankCheck.l0]
      rw [hb, hw, bck_e v c hv]
      exact ev_pos (by rw [B_size]; omega) (ev_pos (by omega) ih')
  exact main l [] 7 rfl (by omega)
theorem specCk (l : List UInt8) (hl : l.length ≤ 1100000) : Ev (fun k => spec_l14Check.f k (B l)) (bck 7 l : Int) := by
  have main : ∀ (r pre : List UInt8) (v : Nat), l = pre ++ r → v < 65521 → Ev (fun k => spec_l14Check.l0 k (B l) (v : Int) ((pre.length : Nat) : Int)) (bck v r : Int) := by
    intro r
    induction r with
    | nil =>
      intro pre v he _
      rw [List.append_nil] at he
      refine Ev.step (fun _ => rfl) ?_
      simp only [spec_l14Check.l0]
      exact ev_neg (by rw [B_size, he]; omega) (ev_some _)
    | cons c r ih =>
      intro pre v he hv
      have hz : l.length = pre.length + (r.length + 1) := by rw [he]; simp only [List.length_append, List.length_cons]
      have hb : bt (B l) ((pre.length : Nat) : Int) = (c.toNat : Int) := by rw [he]; exact bt_mid _ _ _
      have hw : wrap64 (((pre.length : Nat) : Int) + 1) = ((pre.length + 1 : Nat) : Int) := by rw [wrap_id (by omega) (by omega)]; omega
      have ih' := ih (pre ++ [c]) ((31 * v + c.toNat) % 65521) (by rw [he]; simp) (by omega)
      rw [show (pre ++ [c]).length = pre.length + 1 by simp] at ih'
      refine Ev.step (fun _ => rfl) ?_
      simp only [spec_l14Check.l0]
      rw [hb, hw, bck_e v c hv]
      exact ev_pos (by rw [B_size]; omega) (ev_pos (by omega) ih')
  exact main l [] 7 rfl (by omega)
def isDec (M : Nat) (l : List UInt8) (n : Nat) : Prop := n < M ∧ l = dec n
def isMon (l : List UInt8) (n : Nat) : Prop := (1 ≤ n ∧ n ≤ 100000000000) ∧ l = mon n
theorem dec_inj {a b : Nat} (h : dec a = dec b) : a = b := by rw [← dec_val a, ← dec_val b, h]
theorem mon_inj {a b : Nat} (ha : a ≤ 100000000000) (hb : b ≤ 100000000000) (h : mon a = mon b) : a = b := by
  have h1 := rdm_mon a ha
  rw [h, rdm_mon b hb] at h1
  injection h1 with h1 _
  omega
theorem val_ltd : ∀ (d : Nat) (x : List UInt8), (∀ c ∈ x, isD c) → x.length ≤ d → ∀ v, val v x < (v + 1) * 10 ^ d := by
  intro d
  induction d with
  | zero =>
    intro x _ hx v
    have : x = [] := List.eq_nil_of_length_eq_zero (by omega)
    subst this
    show v < _
    omega
  | succ d ih =>
    intro x hx hlx v
    cases x with
    | nil =>
      show v < (v + 1) * 10 ^ (d + 1)
      have : 0 < 10 ^ (d + 1) := Nat.pow_pos (by omega)
      exact Nat.lt_of_lt_of_le (Nat.lt_succ_self v) (Nat.le_mul_of_pos_right _ this)
    | cons c x =>
      have hc := hx c (by simp)
      unfold isD at hc
      have h5 := ih x (fun c hc => hx c (by simp [hc])) (by simp only [List.length_cons] at hlx; omega) (v * 10 + (c.toNat - 48))
      show val (v * 10 + (c.toNat - 48)) x < _
      refine Nat.lt_of_lt_of_le h5 ?_
      rw [Nat.pow_succ, Nat.mul_comm (10 ^ d) 10, ← Nat.mul_assoc]
      exact Nat.mul_le_mul_right _ (by omega)
theorem implD (l : List UInt8) (hl : l.length ≤ 1100000) : EvP (fun k => impl_fieldNumber.f k (B l) 100) (fun r => (r.2 = true ∧ ∃ n : Nat, isDec 100000000 l n ∧ r.1 = n) ∨ (r.2 = false ∧ ¬ ∃ n, isDec 100000000 l n)) := by
  unfold impl_fieldNumber.f
  refine evp_neg (by omega) (evp_step (fun _ => rfl) ?_)
  simp only [impl_fieldNumber.j0]
  obtain ⟨ds, t, h1, h2, h3⟩ := runs l
  have hrun := digRun l [] ds t hl (by rw [h1]; simp) h2 h3
  simp only [List.length_nil, Nat.zero_add] at hrun
  refine evp_pos trivial (evp_bind hrun ?_)
  rintro ⟨r1, r2⟩ ⟨e2, u, e1, hu, hv⟩
  simp only at e1 e2 ⊢
  subst e1 e2
  have hz : l.length = ds.length + t.length := by rw [h1, List.length_append]
  have conv : ∀ n, isDec 100000000 l n → ds = l ∧ t = [] ∧ l.length ≤ 8 ∧ u = n := by
    rintro n ⟨hn, he⟩
    have hd : ∀ c ∈ l, isD c := by rw [he]; exact dec_isD n
    have ht : t = [] := by
      cases t with
      | nil => rfl
      | cons c t' => exact absurd (hd c (by rw [h1]; simp)) (h3 c t' rfl)
    subst ht
    rw [List.append_nil] at h1
    have hlen := dec_len (d := 7) (n := n) (by omega)
    rw [← he] at hlen
    refine ⟨h1.symm, rfl, by omega, ?_⟩
    rw [hv (by rw [← h1]; omega), ← h1, he, dec_val]
  have no : (¬ ∃ n, isDec 100000000 l n) → EvP (fun k => some ((u : Int), false)) (fun r : Int × Bool => (r.2 = true ∧ ∃ n : Nat, isDec 100000000 l n ∧ r.1 = n) ∨ (r.2 = false ∧ ¬ ∃ n, isDec 100000000 l n)) := fun h => evp_some (Or.inr ⟨rfl, h⟩)
  by_cases c1 : ((ds.length : Nat) : Int) = ((B l).size : Int)
  · have ht : t = [] := by rw [B_size] at c1; exact List.eq_nil_of_length_eq_zero (by omega)
    subst ht
    rw [List.append_nil] at h1
    refine evp_pos c1 ?_
    by_cases c2 : ((ds.length : Nat) : Int) > 0
    · refine evp_pos c2 ?_
      by_cases c3 : ((ds.length : Nat) : Int) < 9
      · refine evp_pos c3 ?_
        have hvl := hv (by omega)
        have h6 := val_ltd 8 ds h2 (by omega) 0
        rw [← hvl] at h6
        have e8 : (0 + 1) * 10 ^ 8 = 100000000 := rfl
        refine evp_bind (evp_ev (implDec u (by omega))) ?_
        rintro a rfl
        by_cases c4 : dec u = l
        · refine evp_pos (by rw [c4]) (evp_some (Or.inl ⟨by simp, u, ⟨?_, c4.symm⟩, rfl⟩))
          omega
        · refine evp_neg (fun h => c4 (B_inj.1 ((str_iff _ _).1 h))) (no ?_)
          rintro ⟨n, hn⟩
          have := (conv n hn).2.2.2
          rw [this] at c4
          exact c4 hn.2.symm
      · refine evp_neg c3 (no ?_)
        rintro ⟨n, hn⟩
        have h5 := conv n hn
        have := h5.2.2.1
        rw [← h5.1] at this
        omega
    · refine evp_neg c2 (no ?_)
      rintro ⟨n, hn⟩
      have h5 := conv n hn
      have h6 := dec_pos n
      rw [← hn.2, ← h5.1] at h6
      omega
  · refine evp_neg c1 (no ?_)
    rintro ⟨n, hn⟩
    have h5 := conv n hn
    rw [h5.1] at c1
    exact c1 rfl
theorem smo_mon {o : Int} (h : 0 ≤ o ∧ o ≤ 100000000000) : smo o = mon o.toNat := by
  unfold smo
  rw [if_pos (by unfold amP; omega), if_neg (by omega), show o.natAbs = o.toNat by omega]
theorem smo_neg_ng {a : Int} (h : a < 0) (hA : amP a) : ng (smo a) = true := by
  unfold smo
  rw [if_pos hA, if_pos h]
  rfl
theorem mon_ng (n : Nat) : ng (mon n) = false := dec_ng _ _
theorem implM (l : List UInt8) (hl : l.length ≤ 1100000) : EvP (fun k => impl_fieldNumber.f k (B l) 109) (fun r => (r.2 = true ∧ ∃ n : Nat, isMon l n ∧ r.1 = n) ∨ (r.2 = false ∧ ¬ ∃ n, isMon l n)) := by
  unfold impl_fieldNumber.f
  refine evp_pos rfl (evp_bind (readAny l hl) ?_)
  rintro ⟨a, ok⟩ ⟨h1, h2⟩
  simp only at h1 h2 ⊢
  have conv : ∀ n, isMon l n → a = n ∧ ok = true := by
    rintro n ⟨hn, he⟩
    have := h2 n hn.2 he
    injection this with e1 e2
    exact ⟨e1, e2⟩
  have no : ∀ x : Int, (¬ ∃ n, isMon l n) → EvP (fun k => some (x, false)) (fun r : Int × Bool => (r.2 = true ∧ ∃ n : Nat, isMon l n ∧ r.1 = n) ∨ (r.2 = false ∧ ¬ ∃ n, isMon l n)) := fun x h => evp_some (Or.inr ⟨rfl, h⟩)
  by_cases c1 : ok = true
  · have hA : amP a := h1 c1
    refine evp_pos c1 (evp_bind (evp_ev (implMoney a)) ?_)
    rintro t rfl
    by_cases c2 : smo a = l
    · refine evp_pos (by rw [c2]) ?_
      by_cases c3 : a = 0
      · refine evp_pos c3 (no _ ?_)
        rintro ⟨n, hn⟩
        have := (conv n hn).1
        have := hn.1.1
        omega
      · refine evp_neg c3 (evp_step (fun _ => rfl) ?_)
        simp only [impl_fieldNumber.j0]
        refine evp_neg (by omega) (evp_pos c1 ?_)
        unfold amP at hA
        by_cases c4 : a ≥ 0
        · refine evp_some (Or.inl ⟨by rw [decide_eq_true_eq]; exact c4, a.toNat, ⟨by omega, ?_⟩, by show a = ((a.toNat : Nat) : Int); omega⟩)
          rw [← c2]
          exact smo_mon (by omega)
        · refine evp_some (Or.inr ⟨by rw [decide_eq_false_iff_not]; exact c4, ?_⟩)
          rintro ⟨n, hn⟩
          have := (conv n hn).1
          omega
    · refine evp_neg (fun h => c2 (B_inj.1 ((str_iff _ _).1 h))) (no _ ?_)
      rintro ⟨n, hn⟩
      have h5 := (conv n hn).1
      rw [h5, smo_mon (by have := hn.1.2; omega), Int.toNat_natCast] at c2
      exact c2 hn.2.symm
  · refine evp_neg c1 (no _ ?_)
    rintro ⟨n, hn⟩
    exact c1 (conv n hn).2
theorem specR (p : Nat) (hp : p = 0 ∨ p = 2) (l : List UInt8) : Ev (fun k => spec_ReadMoney.f k (B l) (p : Int)) (rdm p l) := specRead p hp l
theorem sm_dec {x : Int} (h : ¬ x < 0) : sm 0 x = dec x.toNat := by
  unfold sm mo
  rw [if_neg h, if_pos rfl]
  congr 1
  omega
theorem specW (l : List UInt8) : ∃ v, Ev (fun k => spec_l14Whole.f k (B l)) v ∧ ((∃ n : Nat, isDec 100000000001 l n ∧ v = n) ∨ (v = -1 ∧ ¬ ∃ n, isDec 100000000001 l n)) := by
  have hr := specR 0 (Or.inl rfl) l
  have conv : ∀ n, isDec 100000000001 l n → rdm 0 l = ((n : Int), true) := by
    rintro n ⟨hn, he⟩
    rw [he]; exact rdm_dec n (by omega)
  by_cases h1 : (rdm 0 l).2 = true
  · obtain ⟨hA, hs⟩ := rdm_ok h1
    have hs := hs rfl
    by_cases h2 : (rdm 0 l).1 < 0
    · refine ⟨-1, ?_, Or.inr ⟨rfl, ?_⟩⟩
      · unfold spec_l14Whole.f
        exact ev_bind hr (ev_pos h1 (ev_pos h2 (ev_some _)))
      · rintro ⟨n, hn⟩
        rw [conv n hn] at h2
        simp only at h2
        omega
    · refine ⟨(rdm 0 l).1, ?_, Or.inl ⟨(rdm 0 l).1.toNat, ⟨by unfold amP at hA; omega, ?_⟩, by omega⟩⟩
      · unfold spec_l14Whole.f
        exact ev_bind hr (ev_pos h1 (ev_neg h2 (ev_some _)))
      · exact hs.symm.trans (sm_dec h2)
  · refine ⟨-1, ?_, Or.inr ⟨rfl, ?_⟩⟩
    · unfold spec_l14Whole.f
      exact ev_bind hr (ev_neg h1 (ev_some _))
    · rintro ⟨n, hn⟩
      rw [conv n hn] at h1
      exact h1 rfl
theorem specM (l : List UInt8) : ∃ v, Ev (fun k => spec_l14Money.f k (B l)) v ∧ ((∃ n : Nat, isMon l n ∧ v = n) ∨ (v = 0 ∧ ¬ ∃ n, isMon l n)) := by
  have hr := specR 2 (Or.inr rfl) l
  have conv : ∀ n, isMon l n → rdm 2 l = ((n : Int), true) := by
    rintro n ⟨hn, he⟩
    rw [he]; exact rdm_mon n (by omega)
  by_cases h1 : (rdm 2 l).2 = true
  · obtain ⟨hA, _⟩ := rdm_ok h1
    by_cases h2 : (rdm 2 l).1 < 1
    · refine ⟨0, ?_, Or.inr ⟨rfl, ?_⟩⟩
      · unfold spec_l14Money.f
        exact ev_bind hr (ev_pos h1 (ev_pos h2 (ev_some _)))
      · rintro ⟨n, hn⟩
        rw [conv n hn] at h2
        simp only at h2
        have := hn.1.1
        omega
    · have hm := sMoneyZ 2 (Or.inr rfl) _ hA
      have e : sm 2 (rdm 2 l).1 = mon (rdm 2 l).1.toNat := by
        unfold sm mo
        rw [if_neg (by omega), if_neg (by omega)]
        congr 1
        omega
      rw [e] at hm
      by_cases h3 : mon (rdm 2 l).1.toNat = l
      · refine ⟨(rdm 2 l).1, ?_, Or.inl ⟨(rdm 2 l).1.toNat, ⟨by unfold amP at hA; omega, h3.symm⟩, by omega⟩⟩
        unfold spec_l14Money.f
        exact ev_bind hr (ev_pos h1 (ev_neg h2 (ev_bind hm (ev_pos (by rw [h3]) (ev_some _)))))
      · refine ⟨0, ?_, Or.inr ⟨rfl, ?_⟩⟩
        · unfold spec_l14Money.f
          exact ev_bind hr (ev_pos h1 (ev_neg h2 (ev_bind hm (ev_neg (fun h => h3 (B_inj.1 ((str_iff _ _).1 h))) (ev_some _)))))
        · rintro ⟨n, hn⟩
          rw [conv n hn] at h3
          simp only [Int.toNat_natCast] at h3
          exact h3 hn.2.symm
  · refine ⟨0, ?_, Or.inr ⟨rfl, ?_⟩⟩
    · unfold spec_l14Money.f
      exact ev_bind hr (ev_neg h1 (ev_some _))
    · rintro ⟨n, hn⟩
      rw [conv n hn] at h1
      exact h1 rfl
end Go.Proofs.Ytmpknbdbichdiaa.PFnExactReadBank
