import Derived.Test.YtfkakbpjddgmeaaFEvWords
import Derived.Test.YtfkakbpjddgmeaaFPFnFlowBackx
import Derived.Laws.Strings
import Derived.Laws.Strings2
import Derived.Test.YtfkakbpjddgmeaaFIterWords
set_option linter.unusedVariables false
set_option linter.unusedSimpArgs false
namespace Go.Proofs.Ytfkakbpjddgmeaa.PFnFlowBack
open Go Go.RowKit Go.Proofs.YtfkakbpjddgmeaaW.PrintWords Go.Proofs.YtfkakbpjddgmeaaW.PrintLast Go.Proofs.Ytfkakbpjddgmeaa.MapWords Go.Proofs.Ytfkakbpjddgmeaa.EvWords
open Classical
theorem between_eq (a b c : Int) : impl_between.f a b c = some (decide (b ≤ a ∧ a ≤ c)) := by
  unfold impl_between.f
  by_cases h : a ≥ b
  · rw [if_pos h]; congr 1; simp; omega
  · rw [if_neg h]; congr 1; simp; omega
theorem l1In_eq (a b c : Int) : spec_l1In.f a b c = some (decide (b ≤ a ∧ a ≤ c)) := by
  unfold spec_l1In.f
  by_cases h : a ≥ b
  · rw [if_pos h]; congr 1; simp; omega
  · rw [if_neg h]; congr 1; simp; omega
def nbP (b : Int) : Prop := (97 ≤ b ∧ b ≤ 122) ∨ (65 ≤ b ∧ b ≤ 90) ∨ (48 ≤ b ∧ b ≤ 57) ∨ b = 45 ∨ b = 95 ∨ b = 46
def nameP (s : ByteArray) : Prop := 1 ≤ s.size ∧ s.size ≤ 20 ∧ ∀ i : Nat, i < s.size → nbP (bt s i)
theorem nameByte_eq (b : Int) : impl_nameByte.f b = some (decide (nbP b)) := by
  by_cases h : nbP b
  · rw [decide_eq_true h]
    unfold nbP at h
    unfold impl_nameByte.f
    repeat' split
    all_goals first | rfl | (exfalso; omega) | (congr 1; simp; omega)
  · rw [decide_eq_false h]
    unfold nbP at h
    unfold impl_nameByte.f
    repeat' split
    all_goals first | rfl | (exfalso; omega) | (congr 1; simp; omega)
theorem str_iff (a b : ByteArray) : a.toList = b.toList ↔ a = b := by
  constructor
  · intro h
    rw [ByteArray.toList_eq, ByteArray.toList_eq] at h
    cases a; cases b
    simp only [ByteArray.mk.injEq]
    exact Array.toList_inj.1 h
  · intro h; rw [h]
theorem implName (s : ByteArray) : Ev (fun k => impl_NameOk.f k s) (decide (nameP s)) := by
  have hj : ∀ b : Bool, b = decide (¬ (1 ≤ s.size ∧ s.size ≤ 20)) → Ev (fun k => impl_NameOk.j0 k s b) (decide (nameP s)) := by
    intro b hb
    refine Ev.step (fun _ => rfl) ?_
    by_cases hc : 1 ≤ s.size ∧ s.size ≤ 20
    · have hb' : b = false := by rw [hb]; simp [hc]
      refine ev_neg (by simp [hb']) ?_
      refine ev_eq (ev_loopB (n := s.size) (p := fun i => nbP (bt s (i : Nat))) ?_ ?_ ?_) ?_
      · intro _
        refine Ev.step (fun _ => rfl) ?_
        exact ev_neg (by omega) (ev_some _)
      · intro i r hi _ hp h
        refine Ev.step (fun _ => rfl) ?_
        refine ev_pos (by omega) (ev_pos (by omega) (ev_bind0 (nameByte_eq _) ?_))
        refine ev_pos (by simpa using hp) ?_
        rw [wrap_succ hi (by omega)]
        exact h
      · intro i hi _ hp
        refine Ev.step (fun _ => rfl) ?_
        refine ev_pos (by omega) (ev_pos (by omega) (ev_bind0 (nameByte_eq _) ?_))
        exact ev_neg (by simpa using hp) (ev_some _)
      · rw [decide_eq_decide]
        unfold nameP
        exact ⟨fun h => ⟨hc.1, hc.2, h⟩, fun h => h.2.2⟩
    · have hb' : b = true := by rw [hb]; simp [hc]
      refine ev_pos hb' (ev_eq (ev_some false) ?_)
      symm
      rw [decide_eq_false_iff_not]
      exact fun h => hc ⟨h.1, h.2.1⟩
  unfold impl_NameOk.f
  by_cases h1 : (s.size : Int) < 1
  · refine ev_pos h1 (hj true ?_)
    symm; rw [decide_eq_true_eq]; omega
  · refine ev_neg h1 (hj _ ?_)
    rw [decide_eq_decide]; omega
theorem specName (s : ByteArray) (hs : s.size ≤ 9223372036854775807) : Ev (fun k => spec_NameOk.f k s) (decide (nameP s)) := by
  unfold spec_NameOk.f
  have good : ∀ (i : Nat) (r : Bool), i < s.size → nbP (bt s i) → Ev (fun k => spec_NameOk.l0 k s ((i + 1 : Nat) : Int)) r → Ev (fun k => spec_NameOk.l0 k s i) r := by
    intro i r hi hp h
    have hc1 : (i : Int) < (s.size : Int) := by omega
    have hc2 : 0 ≤ (i : Int) := by omega
    refine Ev.step (fun k => ?_) h
    unfold nbP at hp
    simp only [spec_NameOk.l0]
    rw [if_pos hc1, if_pos hc2, wrap_succ hi hs]
    repeat' split
    all_goals first | rfl | (exfalso; omega)
  have bad : ∀ (i : Nat), i < s.size → ¬ nbP (bt s i) → Ev (fun k => spec_NameOk.l0 k s i) false := by
    intro i hi hp
    have hc1 : (i : Int) < (s.size : Int) := by omega
    have hc2 : 0 ≤ (i : Int) := by omega
    refine Ev.step (f := fun _ => some false) (fun k => ?_) (ev_some _)
    unfold nbP at hp
    simp only [spec_NameOk.l0]
    rw [if_pos hc1, if_pos hc2]
    repeat' split
    all_goals first | rfl | (exfalso; omega)
  obtain ⟨g1, g2⟩ := ev_loop (F := fun k i => spec_NameOk.l0 k s i) (n := s.size) (p := fun i => nbP (bt s (i : Nat))) (R := decide (1 ≤ s.size ∧ s.size ≤ 20)) (bad := false)
    (fun _ => by
      refine Ev.step (fun _ => rfl) ?_
      refine ev_neg (by omega) (ev_bind0 (l1In_eq _ _ _) (ev_eq (ev_some _) ?_))
      rw [decide_eq_decide]; omega)
    (fun i r hi _ hp h => good i r hi hp h)
    (fun i hi _ hp => bad i hi hp)
  by_cases h : ∀ j, j < s.size → nbP (bt s (j : Nat))
  · refine ev_eq (g1 h) ?_
    rw [decide_eq_decide]
    unfold nameP
    exact ⟨fun g => ⟨g.1, g.2, h⟩, fun g => ⟨g.1, g.2.1⟩⟩
  · refine ev_eq (g2 h) ?_
    symm; rw [decide_eq_false_iff_not]
    exact fun g => h g.2.2
end Go.Proofs.Ytfkakbpjddgmeaa.PFnFlowBack

set_option linter.unusedVariables false
set_option linter.unusedSimpArgs false
namespace Go.Proofs.Ytfkakbpjddgmeaa.PFnFlowBack
open Go Go.RowKit Go.Proofs.YtfkakbpjddgmeaaW.PrintWords Go.Proofs.YtfkakbpjddgmeaaW.PrintLast Go.Proofs.Ytfkakbpjddgmeaa.MapWords Go.Proofs.Ytfkakbpjddgmeaa.EvWords
open Classical
def B (l : List UInt8) : ByteArray := ⟨l.toArray⟩
theorem B_list (l : List UInt8) : (B l).toList = l := ByteArray.toList_mk l
theorem B_of (s : ByteArray) : B s.toList = s := (str_iff _ _).1 (B_list _)
theorem B_inj {a b : List UInt8} : B a = B b ↔ a = b := ⟨fun h => by have := congrArg ByteArray.toList h; rwa [B_list, B_list] at this, fun h => by rw [h]⟩
theorem B_size (l : List UInt8) : (B l).size = l.length := rfl
theorem B_app (a b : List UInt8) : B a ++ B b = B (a ++ b) := by
  apply ByteArray.ext
  simp [B, ByteArray.data_append]
theorem B_ext (l : List UInt8) (a b : Nat) : (B l).extract a b = B ((l.drop a).take (b - a)) := ByteArray.extract_mk l a b
theorem B_bt (l : List UInt8) (i : Nat) (h : i < l.length) : bt (B l) (i : Int) = (l[i].toNat : Int) := by
  rw [← bt_at (B l) i (by simpa [B_size] using h)]
  rfl
theorem nums1 (x : Int) : strOfNums [x] = B [UInt8.ofNat x.toNat] := rfl
def dgt (d : Nat) : UInt8 := UInt8.ofNat (48 + d)
theorem dgt_toNat {d : Nat} (h : d < 10) : (dgt d).toNat = 48 + d := by
  unfold dgt
  rw [UInt8.toNat_ofNat']
  omega
def decz (n : Nat) : List UInt8 := if h : n = 0 then [] else decz (n / 10) ++ [dgt (n % 10)]
def dec (n : Nat) : List UInt8 := decz (n / 10) ++ [dgt (n % 10)]
theorem decz_zero : decz 0 = [] := by rw [decz]; simp
theorem decz_pos {n : Nat} (h : n ≠ 0) : decz n = dec n := by rw [decz]; simp [h, dec]
theorem decz_len : ∀ (d n : Nat), n < 10 ^ d → (decz n).length ≤ d := by
  intro d
  induction d with
  | zero => intro n h; have : n = 0 := by simpa using h
            rw [this, decz_zero]; simp
  | succ d ih =>
    intro n h
    by_cases h0 : n = 0
    · rw [h0, decz_zero]; simp
    · rw [decz_pos h0]
      unfold dec
      have := ih (n / 10) (by rw [Nat.pow_succ] at h; omega)
      simp only [List.length_append, List.length_singleton]
      omega
theorem dec_len {d n : Nat} (h : n < 10 ^ (d + 1)) : (dec n).length ≤ d + 1 := by
  unfold dec
  have := decz_len d (n / 10) (by rw [Nat.pow_succ] at h; omega)
  simp only [List.length_append, List.length_singleton]
  omega
theorem dec_pos (n : Nat) : 1 ≤ (dec n).length := by unfold dec; simp
theorem num_dgt (n : Nat) (h : n ≤ 9223372036854775807) : strOfNums [wrap64 (48 + Int.tmod (n : Int) 10) % 256] = B [dgt (n % 10)] := by
  rw [nums1]
  congr 2
  have : wrap64 (48 + Int.tmod (n : Int) 10) % 256 = ((48 + n % 10 : Nat) : Int) := by
    rw [Int.tmod_eq_emod_of_nonneg (by omega), wrap_id (by omega) (by omega)]
    omega
  rw [this]
  rfl
theorem tdiv10 (n : Nat) (h : n ≤ 9223372036854775807) : wrap64 (Int.tdiv (n : Int) 10) = ((n / 10 : Nat) : Int) := by
  rw [Int.tdiv_eq_ediv_of_nonneg (by omega), wrap_id (by omega) (by omega)]
  omega
theorem dec_loop : ∀ (n : Nat) (s : List UInt8), n + s.length ≤ 4611686018427387904 → Ev (fun k => impl_decimal.l0 k (n : Int) (B s)) (B (decz n ++ s)) := by
  intro n
  induction n using Nat.strongRecOn with
  | _ n ih =>
    intro s hs
    by_cases h : n = 0
    · subst h
      refine Ev.step (fun _ => rfl) (ev_neg (by omega) ?_)
      rw [decz_zero]
      exact ev_some _
    · refine Ev.step (fun _ => rfl) (ev_pos (by omega) (ev_bind0 rfl ?_))
      rw [num_dgt n (by omega), tdiv10 n (by omega)]
      refine ev_pos (by rw [B_size, B_size]; simp only [List.length_singleton]; omega) ?_
      rw [B_app]
      refine ev_eq (ih (n / 10) (by omega) _ (by simp only [List.length_append, List.length_singleton]; omega)) ?_
      rw [decz_pos h]
      simp [dec]
theorem implDec (n : Nat) (h : n ≤ 4611686018427387) : Ev (fun k => impl_decimal.f k (n : Int)) (B (dec n)) := by
  refine Ev.step (fun _ => rfl) (ev_neg (by omega) ?_)
  rw [num_dgt n (by omega), tdiv10 n (by omega)]
  exact dec_loop (n / 10) _ (by simp only [List.length_singleton]; omega)
theorem dig_B {d : Nat} (h : d < 10) : (⟨#[48, 49, 50, 51, 52, 53, 54, 55, 56, 57]⟩ : ByteArray).extract (d : Int).toNat (wrap64 ((d : Int) + 1)).toNat = B [dgt d] := by
  have e : (⟨#[48, 49, 50, 51, 52, 53, 54, 55, 56, 57]⟩ : ByteArray) = B [48, 49, 50, 51, 52, 53, 54, 55, 56, 57] := rfl
  have e2 : (wrap64 ((d : Int) + 1)).toNat = d + 1 := by rw [wrap_id (by omega) (by omega)]; omega
  rw [e, B_ext, e2, Int.toNat_natCast, show d + 1 - d = 1 by omega]
  congr 1
  match d, h with
  | 0, _ => rfl
  | 1, _ => rfl
  | 2, _ => rfl
  | 3, _ => rfl
  | 4, _ => rfl
  | 5, _ => rfl
  | 6, _ => rfl
  | 7, _ => rfl
  | 8, _ => rfl
  | 9, _ => rfl
theorem specDec : ∀ (n : Nat), n ≤ 4611686018427387 → Ev (fun k => spec_l1Text.f k (n : Int)) (B (dec n)) := by
  intro n
  induction n using Nat.strongRecOn with
  | _ n ih =>
    intro hn
    refine Ev.step (fun _ => rfl) (ev_neg (by omega) ?_)
    have hw : wrap64 ((n : Int) + 1) = (n : Int) + 1 := wrap_id (by omega) (by omega)
    by_cases h : n < 10
    · refine ev_pos (by omega) (ev_pos (by omega) (ev_pos (by rw [hw]; omega) (ev_pos (by rw [hw]; omega) ?_)))
      rw [dig_B h]
      have e0 : n / 10 = 0 := by omega
      have e1 : n % 10 = n := by omega
      have : dec n = [dgt n] := by unfold dec; rw [e0, e1, decz_zero]; rfl
      rw [this]
      exact ev_some _
    · have hm : Int.tmod (n : Int) 10 = ((n % 10 : Nat) : Int) := by rw [Int.tmod_eq_emod_of_nonneg (by omega)]; omega
      refine ev_neg (by omega) ?_
      rw [tdiv10 n (by omega), hm]
      have hw2 : wrap64 (((n % 10 : Nat) : Int) + 1) = ((n % 10 : Nat) : Int) + 1 := wrap_id (by omega) (by omega)
      have hl := dec_len (d := 20) (n := n / 10) (by omega)
      refine ev_bind (ih (n / 10) (by omega) (by omega)) (ev_pos (by omega) (ev_pos (by rw [hw2]; omega) (ev_pos (by rw [hw2]; omega) ?_)))
      rw [dig_B (by omega : n % 10 < 10)]
      refine ev_pos (by rw [B_size, B_size]; simp only [List.length_singleton]; omega) ?_
      rw [B_app]
      refine ev_eq (ev_some _) ?_
      rw [show dec n = decz (n / 10) ++ [dgt (n % 10)] from rfl, decz_pos (by omega : n / 10 ≠ 0)]
def mon (n : Nat) : List UInt8 := dec (n / 100) ++ [46, dgt (n / 10 % 10), dgt (n % 10)]
def amP (a : Int) : Prop := -100000000000 ≤ a ∧ a ≤ 100000000000
noncomputable def smo (a : Int) : List UInt8 := if amP a then (if a < 0 then 45 :: mon a.natAbs else mon a.natAbs) else []
theorem mon_len {n : Nat} (h : n ≤ 100000000000) : 4 ≤ (mon n).length ∧ (mon n).length ≤ 15 := by
  unfold mon
  have h1 := dec_pos (n / 100)
  have h2 := dec_len (d := 11) (n := n / 100) (by omega)
  simp only [List.length_append, List.length_cons, List.length_nil]
  omega
theorem smo_len (a : Int) : (smo a).length ≤ 16 := by
  unfold smo
  by_cases h : amP a
  · rw [if_pos h]
    have := (mon_len (n := a.natAbs) (by unfold amP at h; omega)).2
    by_cases h0 : a < 0
    · rw [if_pos h0]; simp only [List.length_cons]; omega
    · rw [if_neg h0]; omega
  · rw [if_neg h]; simp
theorem amount_eq (a : Int) : impl_amount.f a = some (decide (amP a)) := by
  unfold impl_amount.f
  rw [between_eq, Option.bind_some]
  congr 1
  rw [decide_eq_decide]
  rfl
theorem l1Amount_eq (a : Int) : spec_l1Amount.f a = some (decide (amP a)) := by
  unfold spec_l1Amount.f
  rw [l1In_eq, Option.bind_some]
  congr 1
  rw [decide_eq_decide]
  rfl
theorem pad_more (sg s : List UInt8) (h : s.length ≤ 2) (r : ByteArray) (hr : Ev (fun k => impl_ShowMoney.l0 k 2 (B sg) (B (48 :: s))) r) : Ev (fun k => impl_ShowMoney.l0 k 2 (B sg) (B s)) r := by
  refine Ev.step (fun _ => rfl) (ev_pos (by rw [B_size]; omega) (ev_pos (by rw [B_size]; omega) ?_))
  have : (⟨#[48]⟩ : ByteArray) ++ B s = B (48 :: s) := B_app [48] s
  rw [this]
  exact hr
theorem pad_end (sg x : List UInt8) (c d : UInt8) (h : 1 ≤ x.length) (hx : x.length ≤ 1000) (hg : sg.length ≤ 1000) : Ev (fun k => impl_ShowMoney.l0 k 2 (B sg) (B (x ++ [c, d]))) (B (sg ++ x ++ [46, c, d])) := by
  have hl : (x ++ [c, d]).length = x.length + 2 := by simp
  have hw : wrap64 (((B (x ++ [c, d])).size : Int) - 2) = (x.length : Int) := by
    rw [B_size, hl, wrap_id (by omega) (by omega)]; omega
  refine Ev.step (fun _ => rfl) (ev_neg (by rw [B_size, hl]; omega) (ev_neg (by omega) ?_))
  rw [hw]
  have e1 : (B (x ++ [c, d])).extract 0 ((x.length : Int)).toNat = B x := by
    rw [B_ext, Int.toNat_natCast]; simp
  have e2 : (B (x ++ [c, d])).extract ((x.length : Int)).toNat (B (x ++ [c, d])).size = B [c, d] := by
    rw [B_ext, Int.toNat_natCast, B_size, hl]; simp
  have e3 : (⟨#[46]⟩ : ByteArray) = B [46] := rfl
  rw [e1, e2, e3, B_app, B_app, B_app]
  refine ev_pos (by omega) (ev_pos (by rw [B_size, hl]; omega) (ev_pos (by rw [B_size, B_size]; omega) (ev_pos (by rw [B_size]; simp only [List.length_append]; omega) (ev_pos (by rw [B_size, B_size]; simp only [List.length_append, List.length_cons, List.length_nil]; omega) ?_))))
  refine ev_eq (ev_some _) ?_
  simp
theorem dec_low {n : Nat} (h : n < 10) : dec n = [dgt n] := by
  have e0 : n / 10 = 0 := by omega
  have e1 : n % 10 = n := by omega
  unfold dec; rw [e0, e1, decz_zero]; rfl
theorem dec_step (n : Nat) (h : 10 ≤ n) : dec n = dec (n / 10) ++ [dgt (n % 10)] := by
  rw [show dec n = decz (n / 10) ++ [dgt (n % 10)] from rfl, decz_pos (by omega : n / 10 ≠ 0)]
theorem pad_all (sg : List UInt8) (hg : sg.length ≤ 1000) (n : Nat) (h : n ≤ 100000000000) : Ev (fun k => impl_ShowMoney.l0 k 2 (B sg) (B (dec n))) (B (sg ++ mon n)) := by
  have hd0 : dgt 0 = 48 := rfl
  by_cases h1 : n < 10
  · rw [dec_low h1]
    refine pad_more sg _ (by simp) _ (pad_more sg _ (by simp) _ (ev_eq (pad_end sg [48] 48 (dgt n) (by simp) (by simp) hg) ?_))
    unfold mon
    rw [show n / 100 = 0 by omega, show n / 10 % 10 = 0 by omega, show n % 10 = n by omega, dec_low (by omega), hd0, List.append_assoc]
    all_goals rfl
  · rw [dec_step n (by omega)]
    by_cases h2 : n < 100
    · rw [dec_low (by omega : n / 10 < 10)]
      refine pad_more sg _ (by simp) _ (ev_eq (pad_end sg [48] (dgt (n / 10)) (dgt (n % 10)) (by simp) (by simp) hg) ?_)
      unfold mon
      rw [show n / 100 = 0 by omega, show n / 10 % 10 = n / 10 by omega, dec_low (by omega), hd0, List.append_assoc]
      all_goals rfl
    · rw [dec_step (n / 10) (by omega), Nat.div_div_eq_div_mul, List.append_assoc]
      have := dec_len (d := 11) (n := n / (10 * 10)) (by omega)
      refine ev_eq (pad_end sg (dec (n / (10 * 10))) (dgt (n / 10 % 10)) (dgt (n % 10)) (dec_pos _) (by omega) hg) ?_
      unfold mon
      rw [List.append_assoc]
theorem implMoney (a : Int) : Ev (fun k => impl_ShowMoney.f k a 2) (B (smo a)) := by
  have hj : ∀ b : Bool, b = decide (¬ amP a) → Ev (fun k => impl_ShowMoney.j0 k a 2 b) (B (smo a)) := by
    intro b hb
    refine Ev.step (fun _ => rfl) ?_
    by_cases h : amP a
    · refine ev_neg (by rw [hb]; simp [h]) ?_
      unfold smo
      rw [if_pos h]
      unfold amP at h
      by_cases h0 : a < 0
      · rw [if_pos h0]
        refine ev_pos h0 (Ev.step (fun _ => rfl) ?_)
        rw [wrap_id (by omega) (by omega), show -a = ((a.natAbs : Nat) : Int) by omega]
        exact ev_bind (implDec _ (by omega)) (pad_all [45] (by simp) _ (by omega))
      · rw [if_neg h0]
        have ea : a = ((a.natAbs : Nat) : Int) := by omega
        have h5 := implDec a.natAbs (by omega)
        rw [← ea] at h5
        exact ev_neg h0 (Ev.step (fun _ => rfl) (ev_bind h5 (pad_all [] (by simp) _ (by omega))))
    · refine ev_pos (by rw [hb]; simp [h]) ?_
      unfold smo
      rw [if_neg h]
      exact ev_some _
  unfold impl_ShowMoney.f
  refine ev_bind0 (amount_eq a) ?_
  by_cases h : amP a
  · refine ev_pos (by simp [h]) (ev_bind0 (between_eq _ _ _) (hj _ ?_))
    simp [h]
  · refine ev_neg (by simp [h]) (hj _ ?_)
    simp [h]
theorem ten2 : Ev (fun k => spec_l1Ten.f k 2) 100 := by
  unfold spec_l1Ten.f
  refine Ev.step (fun _ => rfl) (ev_pos (by omega) (Ev.step (fun _ => rfl) (ev_pos (by simp [wrap64]) (Ev.step (fun _ => rfl) (ev_neg (by simp [wrap64]) ?_)))))
  exact ev_eq (ev_some _) (by simp [wrap64])
theorem specMoney (n : Nat) (h : n ≤ 100000000000) : Ev (fun k => spec_ShowMoney.f k (n : Int) 2) (B (mon n)) := by
  have hA : amP (n : Int) := by unfold amP; omega
  refine Ev.step (f := fun k => (spec_l1Amount.f (n : Int)).bind fun t => (if t = true then ((spec_l1In.f 2 0 6).bind fun u => (spec_ShowMoney.j0 k (n : Int) 2 (!u))) else (spec_ShowMoney.j0 k (n : Int) 2 true))) (fun _ => rfl) ?_
  refine ev_bind0 (l1Amount_eq _) (ev_pos (by simp [hA]) (ev_bind0 (l1In_eq _ _ _) ?_))
  have hb : ∀ b : Bool, b = false → Ev (fun k => spec_ShowMoney.j0 k (n : Int) 2 b) (B (mon n)) := ?_
  · exact hb _ (by simp)
  intro b hb
  refine Ev.step (fun _ => rfl) (ev_neg (by simp [hb]) (ev_neg (by omega) (ev_bind ten2 (ev_neg (by omega) ?_))))
  have e1 : wrap64 (Int.tdiv (n : Int) 100) = ((n / 100 : Nat) : Int) := by
    rw [Int.tdiv_eq_ediv_of_nonneg (by omega), wrap_id (by omega) (by omega)]; omega
  have e2 : wrap64 (100 + Int.tmod (n : Int) 100) = ((100 + n % 100 : Nat) : Int) := by
    rw [Int.tmod_eq_emod_of_nonneg (by omega), wrap_id (by omega) (by omega)]; omega
  rw [e1, e2]
  have hd : dec (100 + n % 100) = [49, dgt (n / 10 % 10), dgt (n % 10)] := by
    rw [dec_step _ (by omega), dec_step _ (by omega), dec_low (by omega), show (100 + n % 100) / 10 / 10 = 1 by omega, show (100 + n % 100) / 10 % 10 = n / 10 % 10 by omega, show (100 + n % 100) % 10 = n % 10 by omega]
    rfl
  have hl := dec_len (d := 11) (n := n / 100) (by omega)
  refine ev_bind (specDec _ (by omega)) (ev_pos (by omega) (ev_bind (specDec _ (by omega)) ?_))
  rw [hd]
  have e3 : (⟨#[46]⟩ : ByteArray) = B [46] := rfl
  have e4 : (B [49, dgt (n / 10 % 10), dgt (n % 10)]).extract 1 (B [49, dgt (n / 10 % 10), dgt (n % 10)]).size = B [dgt (n / 10 % 10), dgt (n % 10)] := by
    rw [B_ext]; rfl
  rw [e4, e3, B_app, B_app]
  refine ev_pos (by rw [B_size]; omega) (ev_pos (by rw [B_size]; simp) (ev_pos (by rw [B_size, B_size]; simp only [List.length_append, List.length_cons, List.length_nil]; omega) ?_))
  refine ev_eq (ev_some _) ?_
  unfold mon
  simp
end Go.Proofs.Ytfkakbpjddgmeaa.PFnFlowBack

set_option linter.unusedVariables false
set_option linter.unusedSimpArgs false
namespace Go.Proofs.Ytfkakbpjddgmeaa.PFnFlowBack
open Go Go.RowKit Go.Proofs.YtfkakbpjddgmeaaW.PrintWords Go.Proofs.YtfkakbpjddgmeaaW.PrintLast Go.Proofs.Ytfkakbpjddgmeaa.MapWords Go.Proofs.Ytfkakbpjddgmeaa.IterWords Go.Proofs.Ytfkakbpjddgmeaa.EvWords
open Classical
def EvP {α : Type} (g : Nat → Option α) (P : α → Prop) : Prop := ∃ v, Ev g v ∧ P v
theorem evp_step {α : Type} {g f : Nat → Option α} {P : α → Prop} (h : ∀ k, g (k + 1) = f k) (k : EvP f P) : EvP g P := by
  obtain ⟨v, h1, h2⟩ := k
  exact ⟨v, Ev.step h h1, h2⟩
theorem evp_pos {α : Type} {c : Prop} [Decidable c] {f g : Nat → Option α} {P : α → Prop} (h : c) (k : EvP f P) : EvP (fun n => if c then f n else g n) P := by
  obtain ⟨v, h1, h2⟩ := k
  exact ⟨v, ev_pos h h1, h2⟩
theorem evp_neg {α : Type} {c : Prop} [Decidable c] {f g : Nat → Option α} {P : α → Prop} (h : ¬ c) (k : EvP g P) : EvP (fun n => if c then f n else g n) P := by
  obtain ⟨v, h1, h2⟩ := k
  exact ⟨v, ev_neg h h1, h2⟩
theorem evp_ite {α : Type} {c : Prop} [Decidable c] {f g : Nat → Option α} {P : α → Prop} (h : c → EvP f P) (k : ¬ c → EvP g P) : EvP (fun n => if c then f n else g n) P := by
  by_cases hc : c
  · exact evp_pos hc (h hc)
  · exact evp_neg hc (k hc)
theorem evp_bind {α β : Type} {g : Nat → Option α} {f : Nat → α → Option β} {Q : α → Prop} {P : β → Prop} (h : EvP g Q) (k : ∀ a, Q a → EvP (fun n => f n a) P) : EvP (fun n => (g n).bind (f n)) P := by
  obtain ⟨a, h1, h2⟩ := h
  obtain ⟨v, h3, h4⟩ := k a h2
  exact ⟨v, ev_bind h1 h3, h4⟩
theorem evp_bind0 {α β : Type} {g : Option α} {f : Nat → α → Option β} {a : α} {P : β → Prop} (h : g = some a) (k : EvP (fun n => f n a) P) : EvP (fun n => g.bind (f n)) P := by
  obtain ⟨v, h3, h4⟩ := k
  exact ⟨v, ev_bind0 h h3, h4⟩
theorem evp_some {α : Type} {r : α} {P : α → Prop} (h : P r) : EvP (fun _ => some r) P := ⟨r, ev_some _, h⟩
theorem evp_ev {α : Type} {g : Nat → Option α} {v : α} (h : Ev g v) : EvP g (fun x => x = v) := ⟨v, h, rfl⟩
theorem evp_mono {α : Type} {g : Nat → Option α} {P Q : α → Prop} (h : EvP g P) (k : ∀ v, P v → Q v) : EvP g Q := by
  obtain ⟨v, h1, h2⟩ := h
  exact ⟨v, h1, k v h2⟩
theorem bt_mid (a r : List UInt8) (c : UInt8) : bt (B (a ++ c :: r)) ((a.length : Nat) : Int) = (c.toNat : Int) := by
  rw [B_bt _ _ (by simp)]
  simp
theorem u8_eq (c : UInt8) (n : Nat) (h : n < 256) : (c.toNat : Int) = (n : Int) ↔ c = UInt8.ofNat n := by
  constructor
  · intro e
    apply UInt8.toNat_inj.1
    rw [UInt8.toNat_ofNat']
    omega
  · intro e
    rw [e, UInt8.toNat_ofNat']
    omega
def lin : List UInt8 → List UInt8 → List (List UInt8) × Bool
  | cur, [] => if cur = [] then ([], true) else ([cur], false)
  | cur, c :: r => if c = 10 then (cur :: (lin [] r).1, (lin [] r).2) else lin (cur ++ [c]) r
theorem lin_bd : ∀ (r cur : List UInt8), (lin cur r).1.length ≤ cur.length + r.length ∧ ∀ x ∈ (lin cur r).1, x.length ≤ cur.length + r.length := by
  intro r
  induction r with
  | nil =>
    intro cur
    unfold lin
    by_cases h : cur = []
    · rw [if_pos h]; simp
    · rw [if_neg h]
      have : 1 ≤ cur.length := by cases cur with | nil => exact absurd rfl h | cons a b => simp
      simp only [List.length_cons, List.length_nil, List.mem_singleton]
      exact ⟨by omega, fun x hx => by rw [hx]; omega⟩
  | cons c r ih =>
    intro cur
    unfold lin
    by_cases h : c = 10
    · rw [if_pos h]
      obtain ⟨h1, h2⟩ := ih []
      simp only [List.length_nil] at h1 h2
      refine ⟨by simp only [List.length_cons]; omega, fun x hx => ?_⟩
      rcases List.mem_cons.1 hx with rfl | hx
      · omega
      · have := h2 x hx; simp only [List.length_cons]; omega
    · rw [if_neg h]
      obtain ⟨h1, h2⟩ := ih (cur ++ [c])
      simp only [List.length_append, List.length_cons, List.length_nil] at h1 h2 ⊢
      exact ⟨by omega, fun x hx => by have := h2 x hx; omega⟩
theorem lin_line : ∀ (x cur r : List UInt8), (∀ c ∈ x, c ≠ 10) → lin cur (x ++ 10 :: r) = ((cur ++ x) :: (lin [] r).1, (lin [] r).2) := by
  intro x
  induction x with
  | nil => intro cur r _; rw [List.nil_append, lin, if_pos rfl, List.append_nil]
  | cons c x ih =>
    intro cur r h
    rw [List.cons_append, lin, if_neg (h c (by simp)), ih _ _ (fun d hd => h d (by simp [hd])), List.append_assoc]
    rfl
theorem lines_loop (l : List UInt8) (hl : l.length ≤ 4000) : ∀ (r pre cur : List UInt8) (acc : List (List UInt8)), l = pre ++ cur ++ r → acc.length ≤ pre.length →
    Ev (fun k => impl_linesOf.l0 k (B l) (acc.map B) ((pre.length : Nat) : Int) (((pre ++ cur).length : Nat) : Int)) ((acc ++ (lin cur r).1).map B, (lin cur r).2) := by
  intro r
  induction r with
  | nil =>
    intro pre cur acc he ha
    have hz : l.length = (pre ++ cur).length := by rw [he]; simp only [List.length_append, List.length_cons, List.length_nil]; try omega
    have hpl : (pre ++ cur).length = pre.length + cur.length := List.length_append
    refine Ev.step (fun _ => rfl) ?_
    simp only [impl_linesOf.l0]
    refine ev_neg (by rw [B_size]; omega) ?_
    unfold lin
    by_cases hc : cur = []
    · subst hc
      rw [if_pos rfl, List.append_nil]
      simp only [List.length_nil] at hpl
      exact ev_neg (by rw [B_size]; omega) (ev_some _)
    · rw [if_neg hc]
      have : 1 ≤ cur.length := by cases cur with | nil => exact absurd rfl hc | cons a b => simp
      refine ev_pos (by rw [B_size]; omega) (ev_pos (by omega) (ev_pos (by rw [B_size]; omega) (ev_pos (by rw [List.length_map]; omega) (ev_eq (ev_some _) ?_))))
      rw [B_ext, B_size, Int.toNat_natCast, he]
      simp
  | cons c r ih =>
    intro pre cur acc he ha
    have hpl : (pre ++ cur).length = pre.length + cur.length := List.length_append
    have hz : l.length = pre.length + cur.length + (r.length + 1) := by rw [he]; simp only [List.length_append, List.length_cons, List.length_nil]; try omega
    have hb : bt (B l) (((pre ++ cur).length : Nat) : Int) = (c.toNat : Int) := by rw [he]; exact bt_mid _ _ _
    have hw : wrap64 ((((pre ++ cur).length : Nat) : Int) + 1) = (((pre ++ cur).length + 1 : Nat) : Int) := by rw [wrap_id (by omega) (by omega)]; omega
    refine Ev.step (fun _ => rfl) ?_
    simp only [impl_linesOf.l0]
    refine ev_pos (by rw [B_size]; omega) (ev_pos (by omega) ?_)
    rw [hb, hw]
    unfold lin
    by_cases hc : c = 10
    · rw [if_pos hc]
      refine ev_pos ((u8_eq c 10 (by omega)).2 hc) (ev_pos (by omega) (ev_pos (by omega) (ev_pos (by rw [B_size]; omega) (ev_pos (by rw [List.length_map]; omega) ?_))))
      have e1 : (B l).extract (((pre.length : Nat) : Int)).toNat (((pre ++ cur).length : Nat) : Int).toNat = B cur := by
        rw [B_ext, Int.toNat_natCast, Int.toNat_natCast, he, hpl]
        simp
      have h2 := ih (pre ++ cur ++ [c]) [] (acc ++ [cur]) (by rw [he]; simp) (by simp only [List.length_append, List.length_singleton]; omega)
      have e2 : (pre ++ cur ++ [c] ++ []).length = (pre ++ cur).length + 1 := by simp only [List.length_append, List.length_cons, List.length_nil]; try omega
      have e3 : (pre ++ cur ++ [c]).length = (pre ++ cur).length + 1 := by simp only [List.length_append, List.length_cons, List.length_nil]; try omega
      rw [e2, e3] at h2
      rw [e1]
      have e4 : acc.map B ++ [B cur] = (acc ++ [cur]).map B := by simp
      rw [e4]
      refine ev_eq h2 ?_
      simp
    · rw [if_neg hc]
      refine ev_neg (fun h => hc ((u8_eq c 10 (by omega)).1 h)) ?_
      have h2 := ih pre (cur ++ [c]) acc (by rw [he]; simp) ha
      have e2 : (pre ++ (cur ++ [c])).length = (pre ++ cur).length + 1 := by simp only [List.length_append, List.length_cons, List.length_nil]; try omega
      rw [e2] at h2
      exact h2
theorem implLines (l : List UInt8) (hl : l.length ≤ 4000) : Ev (fun k => impl_linesOf.f k (B l)) ((lin [] l).1.map B, (lin [] l).2) := by
  have := lines_loop l hl l [] [] [] rfl (by simp)
  simpa [impl_linesOf.f] using this
theorem wid (s : ByteArray) (p : Nat) (h : p < s.size) : 1 ≤ (Utf8.decode s p).2 := by
  by_cases ha : (s[p]'h).toNat < 128
  · rw [decode_ascii s p h ha]; exact Nat.le_refl _
  · exact (decode_high s p h (by omega)).2
theorem itp_n (x : Int) : itp x = ((itn x : Nat) : Int) := rfl
theorem itn_n (p : Nat) : itn ((p : Nat) : Int) = p := Int.toNat_natCast p
theorem itw_n (s : ByteArray) (x : Int) : itw s x = ((itn x + (Utf8.decode s (itn x)).2 : Nat) : Int) := rfl
section
variable {s m : ByteArray} {acc : List ByteArray} {f : Nat} {x : Int} {R : List ByteArray}
theorem c_end (hs : s.size ≤ 4000) (h : s.size ≤ itn x) (hf : f ≤ s.size) (ha : acc.length ≤ 4000) : Ev (fun k => impl_cutAt.l0 k s m acc (f : Int) (f : Int) x s) (acc ++ [s.extract f s.size]) := by
  refine Ev.step (fun _ => rfl) ?_
  simp only [impl_cutAt.l0]
  refine ev_neg (by rw [itp_n]; omega) (ev_pos (by omega) (ev_pos (by omega) (ev_pos (by omega) (ev_eq (ev_some _) ?_))))
  rw [Int.toNat_natCast]
theorem c_skip (h : itn x < s.size) (hf : itn x < f) (h2 : Ev (fun k => impl_cutAt.l0 k s m acc (f : Int) (f : Int) (itw s x) s) R) : Ev (fun k => impl_cutAt.l0 k s m acc (f : Int) (f : Int) x s) R := by
  refine Ev.step (fun _ => rfl) ?_
  simp only [impl_cutAt.l0]
  refine ev_pos (by rw [itp_n]; omega) (ev_pos (by rw [itp_n]; omega) ?_)
  refine Ev.step (fun _ => rfl) ?_
  simp only [impl_cutAt.j1]
  exact ev_pos trivial h2
theorem c_short (hs : s.size ≤ 4000) (h : itn x < s.size) (hf : f ≤ itn x) (hm : s.size < itn x + m.size) (h2 : Ev (fun k => impl_cutAt.l0 k s m acc (f : Int) (f : Int) (itw s x) s) R) : Ev (fun k => impl_cutAt.l0 k s m acc (f : Int) (f : Int) x s) R := by
  have hj : ∀ b : Bool, b = true → Ev (fun k => impl_cutAt.j1 k s m acc (f : Int) (f : Int) (itp x) b (itw s x) s) R := by
    intro b hb
    refine Ev.step (fun _ => rfl) ?_
    simp only [impl_cutAt.j1]
    exact ev_pos hb h2
  refine Ev.step (fun _ => rfl) ?_
  simp only [impl_cutAt.l0]
  refine ev_pos (by rw [itp_n]; omega) (ev_neg (by rw [itp_n]; omega) (hj _ ?_))
  rw [decide_eq_true_eq, itp_n, wrap_id (by omega) (by omega)]
  omega
theorem c_full (hs : s.size ≤ 4000) (hf : f ≤ itn x) (hm : itn x + m.size ≤ s.size) (hm1 : 1 ≤ m.size) (h2 : Ev (fun k => impl_cutAt.j1 k s m acc (f : Int) (f : Int) (itp x) false (itw s x) s) R) : Ev (fun k => impl_cutAt.l0 k s m acc (f : Int) (f : Int) x s) R := by
  have e : decide (wrap64 ((s.size : Int) - itp x) < (m.size : Int)) = false := by
    rw [decide_eq_false_iff_not, itp_n, wrap_id (by omega) (by omega)]
    omega
  refine Ev.step (fun _ => rfl) ?_
  simp only [impl_cutAt.l0]
  refine ev_pos (by rw [itp_n]; omega) (ev_neg (by rw [itp_n]; omega) ?_)
  rw [e]
  exact h2
theorem c_miss (hs : s.size ≤ 4000) (hf : f ≤ itn x) (hm : itn x + m.size ≤ s.size) (hm1 : 1 ≤ m.size) (hne : ¬ (s.extract (itn x) (itn x + m.size)).toList = m.toList) (h2 : Ev (fun k => impl_cutAt.l0 k s m acc (f : Int) (f : Int) (itw s x) s) R) : Ev (fun k => impl_cutAt.l0 k s m acc (f : Int) (f : Int) x s) R := by
  refine c_full hs hf hm hm1 ?_
  have hw2 : wrap64 (((itn x : Nat) : Int) + (m.size : Int)) = ((itn x + m.size : Nat) : Int) := by rw [wrap_id (by omega) (by omega)]; omega
  refine Ev.step (fun _ => rfl) ?_
  simp only [impl_cutAt.j1]
  refine ev_neg (by simp) ?_
  rw [itp_n, hw2]
  refine ev_pos (by omega) (ev_pos (by omega) (ev_pos (by omega) (ev_neg ?_ h2)))
  rw [Int.toNat_natCast, Int.toNat_natCast]
  exact hne
theorem c_hit (hs : s.size ≤ 4000) (hf : f ≤ itn x) (hm : itn x + m.size ≤ s.size) (hm1 : 1 ≤ m.size) (ha : acc.length ≤ 4000) (he : (s.extract (itn x) (itn x + m.size)).toList = m.toList)
    (h2 : Ev (fun k => impl_cutAt.l0 k s m (acc ++ [s.extract f (itn x)]) ((itn x + m.size : Nat) : Int) ((itn x + m.size : Nat) : Int) (itw s x) s) R) : Ev (fun k => impl_cutAt.l0 k s m acc (f : Int) (f : Int) x s) R := by
  refine c_full hs hf hm hm1 ?_
  have hw2 : wrap64 (((itn x : Nat) : Int) + (m.size : Int)) = ((itn x + m.size : Nat) : Int) := by rw [wrap_id (by omega) (by omega)]; omega
  refine Ev.step (fun _ => rfl) ?_
  simp only [impl_cutAt.j1]
  refine ev_neg (by simp) ?_
  rw [itp_n, hw2]
  refine ev_pos (by omega) (ev_pos (by omega) (ev_pos (by omega) (ev_pos ?_ (ev_pos (by omega) (ev_pos (by omega) (ev_pos (by omega) (ev_pos (by omega) ?_)))))))
  · rw [Int.toNat_natCast, Int.toNat_natCast]
    exact he
  · rw [Int.toNat_natCast, Int.toNat_natCast]
    exact h2
end
theorem cut_any (s m : ByteArray) (hs : s.size ≤ 4000) (hm : 1 ≤ m.size ∧ m.size ≤ 10) : ∀ (n : Nat) (acc : List ByteArray) (f : Nat) (x : Int), f ≤ s.size → s.size ≤ itn x + n → acc.length ≤ f → (∀ y ∈ acc, y.size ≤ s.size) →
    EvP (fun k => impl_cutAt.l0 k s m acc (f : Int) (f : Int) x s) (fun r => (1 ≤ r.length ∧ r.length ≤ s.size + 1) ∧ ∀ y ∈ r, y.size ≤ s.size) := by
  have more : ∀ (acc : List ByteArray) (a b : Nat), (∀ y ∈ acc, y.size ≤ s.size) → ∀ y ∈ acc ++ [s.extract a b], y.size ≤ s.size := by
    intro acc a b hy y h
    rcases List.mem_append.1 h with h | h
    · exact hy y h
    · rw [List.mem_singleton.1 h, ByteArray.size_extract]; omega
  have fin : ∀ (acc : List ByteArray) (f : Nat) (x : Int), f ≤ s.size → s.size ≤ itn x → acc.length ≤ f → (∀ y ∈ acc, y.size ≤ s.size) →
      EvP (fun k => impl_cutAt.l0 k s m acc (f : Int) (f : Int) x s) (fun r => (1 ≤ r.length ∧ r.length ≤ s.size + 1) ∧ ∀ y ∈ r, y.size ≤ s.size) := by
    intro acc f x hf hx ha hy
    refine ⟨_, c_end hs hx hf (by omega), ⟨?_, ?_⟩, more acc _ _ hy⟩
    · simp only [List.length_append, List.length_singleton]; omega
    · simp only [List.length_append, List.length_singleton]; omega
  intro n
  induction n with
  | zero => intro acc f x hf hx ha hy; exact fin acc f x hf (by omega) ha hy
  | succ n ih =>
    intro acc f x hf hx ha hy
    by_cases hp : itn x < s.size
    · have hw := wid s (itn x) hp
      have hx2 : s.size ≤ itn (itw s x) + n := by rw [itn_itw]; omega
      by_cases h1 : itn x < f
      · obtain ⟨r, h2, h3⟩ := ih acc f (itw s x) hf hx2 ha hy
        exact ⟨r, c_skip hp h1 h2, h3⟩
      · by_cases h4 : s.size < itn x + m.size
        · obtain ⟨r, h2, h3⟩ := ih acc f (itw s x) hf hx2 ha hy
          exact ⟨r, c_short hs hp (by omega) h4 h2, h3⟩
        · by_cases h5 : (s.extract (itn x) (itn x + m.size)).toList = m.toList
          · obtain ⟨r, h2, h3⟩ := ih (acc ++ [s.extract f (itn x)]) (itn x + m.size) (itw s x) (by omega) hx2 (by simp only [List.length_append, List.length_singleton]; omega) (more acc _ _ hy)
            exact ⟨r, c_hit hs (by omega) (by omega) hm.1 (by omega) h5 h2, h3⟩
          · obtain ⟨r, h2, h3⟩ := ih acc f (itw s x) hf hx2 ha hy
            exact ⟨r, c_miss hs (by omega) (by omega) hm.1 h5 h2, h3⟩
    · exact fin acc f x hf (by omega) ha hy
theorem cutAny (s m : ByteArray) (hs : s.size ≤ 4000) (hm : 1 ≤ m.size ∧ m.size ≤ 10) : EvP (fun k => impl_cutAt.f k s m) (fun r => (1 ≤ r.length ∧ r.length ≤ s.size + 1) ∧ ∀ y ∈ r, y.size ≤ s.size) :=
  cut_any s m hs hm s.size [] 0 0 (by omega) (by show s.size ≤ itn 0 + s.size; omega) (by simp) (by simp)
def tl (c1 c2 : UInt8) : List (List UInt8) → List UInt8
  | [] => []
  | p :: ps => c1 :: c2 :: (p ++ tl c1 c2 ps)
theorem itw1 (l : List UInt8) (a r : List UInt8) (c : UInt8) (he : l = a ++ c :: r) (hc : c.toNat < 128) : itw (B l) ((a.length : Nat) : Int) = ((a.length + 1 : Nat) : Int) := by
  have hlt : a.length < (B l).size := by rw [B_size, he]; simp
  have hg : ((B l)[a.length]'hlt) = c := by
    subst he
    have h1 := bt_at (B (a ++ c :: r)) ((a.length : Nat) : Int) (by rw [Int.toNat_natCast]; exact hlt)
    rw [bt_mid] at h1
    apply UInt8.toNat_inj.1
    exact Int.ofNat.inj h1
  rw [itw_n, itn_n, decode_ascii (B l) a.length hlt (by rw [hg]; exact hc)]
theorem at_c (l q r : List UInt8) (c : UInt8) (he : l = q ++ c :: r) : itn ((q.length : Nat) : Int) < (B l).size := by
  rw [itn_n, B_size, he]
  simp
theorem cut_go (l : List UInt8) (hl : l.length ≤ 4000) (c1 c2 : UInt8) (q r : List UInt8) (c : UInt8) (acc : List ByteArray) (f : Nat) (R : List ByteArray) (he : l = q ++ c :: r) (hc : c.toNat < 128) (hne : c ≠ c1) (hf : f ≤ q.length)
    (h2 : Ev (fun k => impl_cutAt.l0 k (B l) (B [c1, c2]) acc (f : Int) (f : Int) ((q.length + 1 : Nat) : Int) (B l)) R) : Ev (fun k => impl_cutAt.l0 k (B l) (B [c1, c2]) acc (f : Int) (f : Int) ((q.length : Nat) : Int) (B l)) R := by
  have e6 := itw1 l q r c he hc
  have hp := at_c l q r c he
  have hne2 : ¬ ((B l).extract (itn ((q.length : Nat) : Int)) (itn ((q.length : Nat) : Int) + (B [c1, c2]).size)).toList = (B [c1, c2]).toList := by
    rw [B_ext, B_list, B_list, B_size, itn_n, he, List.drop_left, Nat.add_sub_cancel_left]
    intro h5
    simp only [List.length_cons, List.length_nil, List.take_succ_cons] at h5
    injection h5 with h6 _
    exact hne h6
  have hs : (B l).size ≤ 4000 := hl
  have hm : 1 ≤ (B [c1, c2]).size := by rw [B_size]; simp
  have hf' : f ≤ itn ((q.length : Nat) : Int) := by rw [itn_n]; exact hf
  rw [← e6] at h2
  generalize B l = s at *
  generalize B [c1, c2] = m at *
  by_cases h4 : s.size < itn ((q.length : Nat) : Int) + m.size
  · exact c_short hs hp hf' h4 h2
  · exact c_miss hs hf' (by omega) hm hne2 h2
theorem cut_skip (l : List UInt8) (m : ByteArray) (q r : List UInt8) (c : UInt8) (acc : List ByteArray) (f : Nat) (R : List ByteArray) (he : l = q ++ c :: r) (hc : c.toNat < 128) (hf : q.length < f)
    (h2 : Ev (fun k => impl_cutAt.l0 k (B l) m acc (f : Int) (f : Int) ((q.length + 1 : Nat) : Int) (B l)) R) : Ev (fun k => impl_cutAt.l0 k (B l) m acc (f : Int) (f : Int) ((q.length : Nat) : Int) (B l)) R := by
  have e6 := itw1 l q r c he hc
  rw [← e6] at h2
  exact c_skip (at_c l q r c he) (by rw [itn_n]; exact hf) h2
theorem cut_hit (l : List UInt8) (hl : l.length ≤ 4000) (c1 c2 : UInt8) (pre cur r : List UInt8) (acc : List ByteArray) (R : List ByteArray) (he : l = (pre ++ cur) ++ c1 :: c2 :: r) (hc1 : c1.toNat < 128) (hc2 : c2.toNat < 128) (ha : acc.length ≤ pre.length)
    (h2 : Ev (fun k => impl_cutAt.l0 k (B l) (B [c1, c2]) (acc ++ [B cur]) (((pre ++ cur).length + 2 : Nat) : Int) (((pre ++ cur).length + 2 : Nat) : Int) (((pre ++ cur).length + 2 : Nat) : Int) (B l)) R) :
    Ev (fun k => impl_cutAt.l0 k (B l) (B [c1, c2]) acc ((pre.length : Nat) : Int) ((pre.length : Nat) : Int) (((pre ++ cur).length : Nat) : Int) (B l)) R := by
  have hpl : (pre ++ cur).length = pre.length + cur.length := List.length_append
  have hz : (pre ++ cur).length + 2 + r.length = l.length := by rw [he]; simp only [List.length_append, List.length_cons]; omega
  have he2 : l = (pre ++ cur ++ [c1]) ++ c2 :: r := by rw [he]; simp
  have e3 : (pre ++ cur ++ [c1]).length = (pre ++ cur).length + 1 := by simp only [List.length_append, List.length_cons, List.length_nil]
  have e1 : (B l).extract pre.length (itn (((pre ++ cur).length : Nat) : Int)) = B cur := by
    rw [itn_n, B_ext, he, hpl]
    simp
  have e4 : ((B l).extract (itn (((pre ++ cur).length : Nat) : Int)) (itn (((pre ++ cur).length : Nat) : Int) + (B [c1, c2]).size)).toList = (B [c1, c2]).toList := by
    rw [B_ext, B_list, B_list, B_size, itn_n, he, List.drop_left, Nat.add_sub_cancel_left]
    simp only [List.length_cons, List.length_nil, List.take_succ_cons, List.take_zero]
  have hs := cut_skip l (B [c1, c2]) (pre ++ cur ++ [c1]) r c2 (acc ++ [B cur]) ((pre ++ cur).length + 2) R he2 hc2 (by omega) (by rw [e3]; exact h2)
  have e6 := itw1 l _ _ c1 he hc1
  rw [e3, ← e6, ← e1] at hs
  refine c_hit hl (by rw [itn_n]; omega) ?_ (by rw [B_size]; simp) (by omega) e4 ?_
  · rw [itn_n, B_size, B_size]; simp only [List.length_cons, List.length_nil]; omega
  · exact hs
theorem cut_fin (l : List UInt8) (hl : l.length ≤ 4000) (m : ByteArray) (pre cur : List UInt8) (acc : List ByteArray) (he : l = pre ++ cur) (ha : acc.length ≤ pre.length) :
    Ev (fun k => impl_cutAt.l0 k (B l) m acc ((pre.length : Nat) : Int) ((pre.length : Nat) : Int) (((pre ++ cur).length : Nat) : Int) (B l)) (acc ++ [B cur]) := by
  have hpl : (pre ++ cur).length = pre.length + cur.length := List.length_append
  have hz : l.length = pre.length + cur.length := by rw [he, hpl]
  refine ev_eq (c_end hl (by rw [itn_n, B_size]; omega) (by rw [B_size]; omega) (by omega)) ?_
  rw [B_ext, B_size, he]
  simp
theorem cut_exact (l : List UInt8) (hl : l.length ≤ 4000) (ha : ∀ c ∈ l, c.toNat < 128) (c1 c2 : UInt8) : ∀ (ps : List (List UInt8)) (r pre cur : List UInt8) (acc : List (List UInt8)), l = pre ++ cur ++ (r ++ tl c1 c2 ps) → (∀ c ∈ r, c ≠ c1) → (∀ p ∈ ps, ∀ c ∈ p, c ≠ c1) → acc.length ≤ pre.length →
    Ev (fun k => impl_cutAt.l0 k (B l) (B [c1, c2]) (acc.map B) ((pre.length : Nat) : Int) ((pre.length : Nat) : Int) (((pre ++ cur).length : Nat) : Int) (B l)) ((acc ++ (cur ++ r) :: ps).map B) := by
  intro ps
  induction ps with
  | nil =>
    intro r
    induction r with
    | nil =>
      intro pre cur acc he _ _ hacc
      refine ev_eq (cut_fin l hl _ pre cur (acc.map B) (by rw [he]; simp [tl]) (by rw [List.length_map]; exact hacc)) ?_
      simp
    | cons c r ih =>
      intro pre cur acc he hr hps hacc
      have he' : l = (pre ++ cur) ++ c :: (r ++ tl c1 c2 []) := by rw [he]; simp
      have h2 := ih pre (cur ++ [c]) acc (by rw [he]; simp) (fun d hd => hr d (by simp [hd])) hps hacc
      have e2 : (pre ++ (cur ++ [c])).length = (pre ++ cur).length + 1 := by rw [← List.append_assoc]; simp only [List.length_append, List.length_cons, List.length_nil]
      have e3 : (cur ++ [c]) ++ r = cur ++ c :: r := by simp
      rw [e2, e3] at h2
      exact cut_go l hl c1 c2 _ _ c _ pre.length _ he' (ha c (by rw [he']; simp)) (hr c (by simp)) (by rw [List.length_append]; omega) h2
  | cons p ps ihp =>
    intro r
    induction r with
    | nil =>
      intro pre cur acc he _ hps hacc
      have he' : l = (pre ++ cur) ++ c1 :: (c2 :: (p ++ tl c1 c2 ps)) := by rw [he]; simp [tl]
      have h2 := ihp p (pre ++ cur ++ [c1, c2]) [] (acc ++ [cur]) (by rw [he']; simp) (hps p (by simp)) (fun q hq => hps q (by simp [hq])) (by simp only [List.length_append, List.length_cons, List.length_nil]; omega)
      have e2 : (pre ++ cur ++ [c1, c2] ++ []).length = (pre ++ cur).length + 2 := by simp only [List.length_append, List.length_cons, List.length_nil]; try omega
      have e3 : (pre ++ cur ++ [c1, c2]).length = (pre ++ cur).length + 2 := by simp only [List.length_append, List.length_cons, List.length_nil]; try omega
      have e4 : (acc ++ [cur]).map B = acc.map B ++ [B cur] := by simp
      rw [e2, e3, e4] at h2
      refine cut_hit l hl c1 c2 pre cur _ (acc.map B) _ he' (ha c1 (by rw [he']; simp)) (ha c2 (by rw [he']; simp)) (by rw [List.length_map]; exact hacc) (ev_eq h2 ?_)
      simp
    | cons c r ih =>
      intro pre cur acc he hr hps hacc
      have he' : l = (pre ++ cur) ++ c :: (r ++ tl c1 c2 (p :: ps)) := by rw [he]; simp
      have h2 := ih pre (cur ++ [c]) acc (by rw [he]; simp) (fun d hd => hr d (by simp [hd])) hps hacc
      have e2 : (pre ++ (cur ++ [c])).length = (pre ++ cur).length + 1 := by rw [← List.append_assoc]; simp only [List.length_append, List.length_cons, List.length_nil]
      have e3 : (cur ++ [c]) ++ r = cur ++ c :: r := by simp
      rw [e2, e3] at h2
      exact cut_go l hl c1 c2 _ _ c _ pre.length _ he' (ha c (by rw [he']; simp)) (hr c (by simp)) (by rw [List.length_append]; omega) h2
theorem cutExact (c1 c2 : UInt8) (x : List UInt8) (ps : List (List UInt8)) (hl : (x ++ tl c1 c2 ps).length ≤ 4000) (ha : ∀ c ∈ x ++ tl c1 c2 ps, c.toNat < 128) (hx : ∀ c ∈ x, c ≠ c1) (hps : ∀ p ∈ ps, ∀ c ∈ p, c ≠ c1) :
    Ev (fun k => impl_cutAt.f k (B (x ++ tl c1 c2 ps)) (B [c1, c2])) ((x :: ps).map B) :=
  cut_exact _ hl ha c1 c2 ps x [] [] [] rfl hx hps (by simp)
end Go.Proofs.Ytfkakbpjddgmeaa.PFnFlowBack
