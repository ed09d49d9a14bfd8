import Derived.Test.YtmpknbdbichdiaaBBank1FnExactReadBank
set_option linter.unusedVariables false
set_option linter.unusedSimpArgs false
namespace Go.Proofs.Ytmpknbdbichdiaa.PFnExactReadBank
open Go Go.RowKit Go.Proofs.YtmpknbdbichdiaaW.PrintWords Go.Proofs.YtmpknbdbichdiaaW.PrintLast Go.Proofs.Ytmpknbdbichdiaa.MapWords Go.Proofs.Ytmpknbdbichdiaa.IterWords Go.Proofs.Ytmpknbdbichdiaa.EvWords
open Classical
abbrev Pay := S174
abbrev Res := List Pay × Int × Int
def py (L : List Pay) (i : Nat) : Pay := L.getD i z174
theorem py_rd (L : List Pay) (i : Nat) : rd_T174 L (i : Int) = py L i := rfl
def nmb (L : List (List UInt8)) (i : Nat) : List UInt8 := L.getD i []
theorem nmb_rd (L : List (List UInt8)) (i : Nat) (h : i < L.length) : rdOf ByteArray.empty (L.map B) (i : Int) = B (nmb L i) := by
  unfold nmb
  simp only [rdOf, Int.toNat_natCast, List.getD_eq_getElem?_getD, List.getElem?_map, List.getElem?_eq_getElem h]
  rfl
def lineP (ta ref : List UInt8) (n : Nat) : List UInt8 := [80, 124] ++ (ta ++ (124 :: (ref ++ (124 :: mon n))))
def goodP (ta ref : List UInt8) (n : Nat) : Prop := acctP ta ∧ nameP (B ref) ∧ 1 ≤ n ∧ n ≤ 100000000000
def isPay (s : List UInt8) (p : Pay) : Prop := ∃ ta ref n, goodP ta ref n ∧ sp 124 [] s = [[80], ta, ref, mon n] ∧ p = ⟨B ta, B ref, (n : Int)⟩
theorem isPay_line {s : List UInt8} {p : Pay} (h : isPay s p) : ∃ ta ref n, goodP ta ref n ∧ s = lineP ta ref n ∧ p = ⟨B ta, B ref, (n : Int)⟩ := by
  obtain ⟨ta, ref, n, h1, h2, h3⟩ := h
  refine ⟨ta, ref, n, h1, ?_, h3⟩
  have := sp_jo 124 s []
  rw [h2, List.nil_append] at this
  rw [← this]
  unfold lineP
  simp [jo, jo.jt]
theorem isPay_one {s : List UInt8} {p q : Pay} (h : isPay s p) (k : isPay s q) : p = q := by
  obtain ⟨ta, ref, n, h1, h2, h3⟩ := h
  obtain ⟨ta', ref', n', k1, k2, k3⟩ := k
  rw [h2] at k2
  injection k2 with _ k2
  injection k2 with e1 k2
  injection k2 with e2 k2
  injection k2 with e3 _
  have := mon_inj h1.2.2.2 k1.2.2.2 e3
  rw [h3, k3, e1, e2, this]
noncomputable def payOf (s : List UInt8) : Option Pay := if h : ∃ p, isPay s p then some (Classical.choose h) else none
theorem payOf_some {s : List UInt8} {p : Pay} (h : isPay s p) : payOf s = some p := by
  unfold payOf
  rw [dif_pos ⟨p, h⟩]
  congr 1
  exact isPay_one (Classical.choose_spec (⟨p, h⟩ : ∃ p, isPay s p)) h
theorem payOf_none {s : List UInt8} (h : ∀ p, ¬ isPay s p) : payOf s = none := by
  unfold payOf
  rw [dif_neg (fun ⟨p, hp⟩ => h p hp)]
theorem payOf_is {s : List UInt8} {p : Pay} (h : payOf s = some p) : isPay s p := by
  by_cases hx : ∃ p, isPay s p
  · obtain ⟨q, hq⟩ := hx
    rw [payOf_some hq] at h
    injection h with h
    rw [← h]; exact hq
  · rw [payOf_none (fun p hp => hx ⟨p, hp⟩)] at h; cases h
def sumP : List Pay → Int
  | [] => 0
  | p :: L => p.f2 + sumP L
theorem sumP_app : ∀ (L : List Pay) (p : Pay), sumP (L ++ [p]) = sumP L + p.f2 := by
  intro L
  induction L with
  | nil => intro p; show p.f2 + 0 = 0 + p.f2; omega
  | cons q L ih => intro p; show q.f2 + sumP (L ++ [p]) = (q.f2 + sumP L) + p.f2; rw [ih]; omega
def okP (p : Pay) : Prop := ∃ ta ref n, goodP ta ref n ∧ p = ⟨B ta, B ref, (n : Int)⟩
theorem sumP_bd : ∀ (L : List Pay), (∀ p ∈ L, okP p) → 0 ≤ sumP L ∧ sumP L ≤ 100000000000 * L.length := by
  intro L
  induction L with
  | nil => intro _; exact ⟨Int.le_refl _, by simp [sumP]⟩
  | cons p L ih =>
    intro h
    have h1 := ih (fun q hq => h q (by simp [hq]))
    obtain ⟨ta, ref, n, hg, rfl⟩ := h p (by simp)
    have hn := hg.2.2
    show 0 ≤ (n : Int) + sumP L ∧ (n : Int) + sumP L ≤ 100000000000 * ((L.length + 1 : Nat) : Int)
    omega
noncomputable def tailR (text : List UInt8) (day sum : Int) (acc : List Pay) (pre rest : List UInt8) : Res :=
  if sumP acc = sum then (if rest = [84, 124] ++ dec (bck 7 pre) ++ [10] then (acc, day, 0) else ([], 0, 5)) else ([], 0, 4)
def stopP (rest : List UInt8) : Prop := rest = [] ∨ rest.take 2 = [84, 124]
noncomputable def run (text : List UInt8) (day sum : Int) : Nat → List Pay → List UInt8 → List UInt8 → Res
  | 0, acc, pre, rest => tailR text day sum acc pre rest
  | c + 1, acc, pre, rest => if stopP rest then ([], 0, 3) else match fl1 rest with
    | none => ([], 0, 2)
    | some (s, r) => match payOf s with
      | none => ([], 0, 2)
      | some p => run text day sum c (acc ++ [p]) (pre ++ s ++ [10]) r
theorem stop_take {rest : List UInt8} : (((B rest).extract 0 2).toList == ([84, 124] : List UInt8)) = decide (rest.take 2 = [84, 124]) := by
  rw [B_ext, B_list]
  show ((rest.drop 0).take (2 - 0) == [84, 124]) = _
  rw [List.drop_zero]
  by_cases h : rest.take 2 = [84, 124]
  · rw [decide_eq_true h]; rw [beq_iff_eq]; exact h
  · rw [decide_eq_false h]; rw [beq_eq_false_iff_ne]; exact h
theorem sp4 {s : List UInt8} (h : (sp 124 [] s).length = 4) : ∃ a b c d, sp 124 [] s = [a, b, c, d] := by
  match hx : sp 124 [] s, h with
  | [a, b, c, d], _ => exact ⟨a, b, c, d, rfl⟩
theorem sp_sz (s : List UInt8) : ∀ y ∈ sp 124 [] s, y.length ≤ s.length := by
  intro y hy
  have := sp_size 124 s [] y hy
  simpa using this
section
variable {text : List UInt8} {day sum cnt : Int}
theorem i_j3t {rest : List UInt8} {acc : List Pay} {x : Int} : Ev (fun k => impl_ReadBank.j3 k (B text) (B rest) day cnt sum acc x true) (([] : List Pay), 0, 3) := by
  refine Ev.step (fun _ => rfl) ?_
  simp only [impl_ReadBank.j3]
  exact ev_pos trivial (ev_some _)
theorem i_j4t {r : ByteArray} {f : List ByteArray} {acc : List Pay} {x : Int} : Ev (fun k => impl_ReadBank.j4 k (B text) r f day cnt sum acc x true) (([] : List Pay), 0, 2) := by
  refine Ev.step (fun _ => rfl) ?_
  simp only [impl_ReadBank.j4]
  exact ev_pos trivial (ev_some _)
end
theorem implRun (text : List UInt8) (hl : text.length ≤ 20000) (day sum : Int) : ∀ (c : Nat) (acc : List Pay) (pre rest : List UInt8), text = pre ++ rest → acc.length + c ≤ 100 → (∀ p ∈ acc, okP p) →
    Ev (fun k => impl_ReadBank.l0 k (B text) (B rest) day ((acc.length + c : Nat) : Int) sum acc (sumP acc)) (run text day sum c acc pre rest) := by
  intro c
  induction c with
  | zero =>
    intro acc pre rest he hc hp
    have hz : text.length = pre.length + rest.length := by rw [he, List.length_append]
    have hck := bck_lt pre 7 (by omega)
    have hdl := dec_len (d := 4) (n := bck 7 pre) (by omega)
    refine Ev.step (fun _ => rfl) ?_
    simp only [impl_ReadBank.l0]
    refine ev_neg (by omega) ?_
    show Ev _ (tailR text day sum acc pre rest)
    unfold tailR
    by_cases hs : sumP acc = sum
    · rw [if_pos hs]
      have hw : wrap64 (((B text).size : Int) - ((B rest).size : Int)) = (pre.length : Int) := by
        rw [B_size, B_size, wrap_id (by omega) (by omega)]; omega
      have e1 : (B text).extract 0 ((pre.length : Int)).toNat = B pre := by
        rw [B_ext, Int.toNat_natCast, he]; simp
      rw [hw, e1]
      refine ev_pos hs (ev_pos (by omega) (ev_pos (by rw [B_size]; omega) (ev_bind (implCk pre (by omega)) (ev_bind (implDec _ (by omega)) ?_))))
      have e2 : (⟨#[84, 124]⟩ : ByteArray) ++ B (dec (bck 7 pre)) = B ([84, 124] ++ dec (bck 7 pre)) := B_app [84, 124] _
      have e3 : B ([84, 124] ++ dec (bck 7 pre)) ++ (⟨#[10]⟩ : ByteArray) = B ([84, 124] ++ dec (bck 7 pre) ++ [10]) := B_app _ [10]
      rw [e2, e3]
      refine ev_pos (by rw [B_size]; omega) (ev_pos (by rw [B_size]; simp only [List.length_append, List.length_cons, List.length_nil]; omega) ?_)
      by_cases h : rest = [84, 124] ++ dec (bck 7 pre) ++ [10]
      · rw [if_pos h]
        exact ev_pos (by rw [h]) (ev_some _)
      · rw [if_neg h]
        exact ev_neg (fun g => h (B_inj.1 ((str_iff _ _).1 g))) (ev_some _)
    · rw [if_neg hs]
      exact ev_neg hs (ev_some _)
  | succ c ih =>
    intro acc pre rest he hc hp
    have hz : text.length = pre.length + rest.length := by rw [he, List.length_append]
    have hb3 : ∀ b : Bool, b = decide (stopP rest) → Ev (fun k => impl_ReadBank.j3 k (B text) (B rest) day ((acc.length + (c + 1) : Nat) : Int) sum acc (sumP acc) b) (run text day sum (c + 1) acc pre rest) := by
      intro b hb
      rw [run]
      by_cases hs : stopP rest
      · rw [if_pos hs]
        have : b = true := by rw [hb]; simpa using hs
        subst this
        exact i_j3t
      · rw [if_neg hs]
        have hb' : b = false := by rw [hb]; simpa using hs
        refine Ev.step (fun _ => rfl) ?_
        simp only [impl_ReadBank.j3]
        refine ev_neg (by simp [hb']) (ev_bind (implFirst rest (by omega)) ?_)
        cases hf : fl1 rest with
        | none =>
          show Ev (fun n => ((impl_cutAt.f n (B rest) (⟨#[124]⟩ : ByteArray)).bind fun t281 => (if false = true then _ else (impl_ReadBank.j4 n (B text) (B []) t281 day ((acc.length + (c + 1) : Nat) : Int) sum acc (sumP acc) true)))) _
          exact ev_bind (cut1 rest (by omega) 124 (by decide)) (ev_neg (by simp) i_j4t)
        | some sr =>
          obtain ⟨s, r⟩ := sr
          have hre := fl1_some rest s r hf
          have hrl : rest.length = s.length + (r.length + 1) := by rw [hre]; simp only [List.length_append, List.length_cons]
          have h4 : ∀ (f : List ByteArray) (b : Bool), b = true → payOf s = none → Ev (fun k => impl_ReadBank.j4 k (B text) (B r) f day ((acc.length + (c + 1) : Nat) : Int) sum acc (sumP acc) b) (match payOf s with | none => (([] : List Pay), (0 : Int), (2 : Int)) | some p => run text day sum c (acc ++ [p]) (pre ++ s ++ [10]) r) := by
            intro f b hb hn
            subst hb
            rw [hn]
            exact i_j4t
          show Ev (fun n => ((impl_cutAt.f n (B ([] ++ s)) (⟨#[124]⟩ : ByteArray)).bind fun t281 => (if true = true then _ else _))) _
          rw [List.nil_append]
          refine ev_bind (cut1 s (by omega) 124 (by decide)) (ev_pos rfl ?_)
          by_cases hlen : (sp 124 [] s).length = 4
          · obtain ⟨f0, f1, f2, f3, hsp⟩ := sp4 hlen
            have hsz := sp_sz s
            rw [hsp] at hsz ⊢
            have z1 := hsz f1 (by simp)
            have z2 := hsz f2 (by simp)
            have z3 := hsz f3 (by simp)
            have g0 : rdOf ByteArray.empty ([f0, f1, f2, f3].map B) 0 = B f0 := rfl
            have g1 : rdOf ByteArray.empty ([f0, f1, f2, f3].map B) 1 = B f1 := rfl
            have g2 : rdOf ByteArray.empty ([f0, f1, f2, f3].map B) 2 = B f2 := rfl
            have g3 : rdOf ByteArray.empty ([f0, f1, f2, f3].map B) 3 = B f3 := rfl
            rw [g0, g1, g2]
            refine ev_pos rfl (ev_pos (by simp) ?_)
            have nop : (¬ (f0 = [80] ∧ acctP f1 ∧ nameP (B f2) ∧ ∃ n, isMon f3 n)) → payOf s = none := fun h => payOf_none (fun p hp => by
              obtain ⟨ta, ref, n, q1, q2, _⟩ := hp
              rw [hsp] at q2
              injection q2 with e0 q2
              injection q2 with e1 q2
              injection q2 with e2 q2
              injection q2 with e3 _
              exact h ⟨e0, by rw [e1]; exact q1.1, by rw [e2]; exact q1.2.1, n, q1.2.2, e3⟩)
            by_cases c0 : f0 = [80]
            · refine ev_pos (by rw [c0, B_list]) (ev_pos (by simp) (ev_bind (implAcct f1 (by omega)) ?_))
              by_cases c1 : acctP f1
              · refine ev_pos (by rw [decide_eq_true_eq]; exact c1) (ev_pos (by simp) (ev_bind (implName (B f2)) ?_))
                by_cases c2 : nameP (B f2)
                · have hj : ∀ b : Bool, b = false → Ev (fun k => impl_ReadBank.j4 k (B text) (B r) ([f0, f1, f2, f3].map B) day ((acc.length + (c + 1) : Nat) : Int) sum acc (sumP acc) b) (match payOf s with | none => (([] : List Pay), (0 : Int), (2 : Int)) | some p => run text day sum c (acc ++ [p]) (pre ++ s ++ [10]) r) := by
                    intro b hb
                    refine Ev.step (fun _ => rfl) ?_
                    simp only [impl_ReadBank.j4]
                    rw [g1, g2, g3]
                    obtain ⟨v, hv, hv2⟩ := implM f3 (by omega)
                    refine ev_neg (by simp [hb]) (ev_pos (by simp) (ev_bind hv ?_))
                    rcases hv2 with ⟨o1, n, hn, o2⟩ | ⟨o1, o2⟩
                    · have hpay : isPay s ⟨B f1, B f2, (n : Int)⟩ := ⟨f1, f2, n, ⟨c1, c2, hn.1⟩, by rw [hsp, c0, ← hn.2], rfl⟩
                      rw [payOf_some hpay, o2]
                      refine ev_pos o1 (ev_pos (by simp) (ev_pos (by simp) (ev_pos (by omega) ?_)))
                      have hok : ∀ p ∈ acc ++ [(⟨B f1, B f2, (n : Int)⟩ : Pay)], okP p := by
                        intro p hp2
                        rcases List.mem_append.1 hp2 with hp2 | hp2
                        · exact hp p hp2
                        · rw [List.mem_singleton.1 hp2]; exact ⟨f1, f2, n, ⟨c1, c2, hn.1⟩, rfl⟩
                      have hbd := sumP_bd acc hp
                      have hlen2 : (acc ++ [(⟨B f1, B f2, (n : Int)⟩ : Pay)]).length = acc.length + 1 := by simp
                      have ih' := ih (acc ++ [(⟨B f1, B f2, (n : Int)⟩ : Pay)]) (pre ++ s ++ [10]) r (by rw [he, hre]; simp) (by rw [hlen2]; omega) hok
                      rw [hlen2, sumP_app, show acc.length + 1 + c = acc.length + (c + 1) by omega] at ih'
                      have hn1 := hn.1.2
                      have hw : wrap64 (sumP acc + (n : Int)) = sumP acc + (n : Int) := wrap_id (by omega) (by omega)
                      rw [hw]
                      exact ih'
                    · rw [nop (fun h => o2 h.2.2.2)]
                      exact ev_neg (by rw [o1]; simp) (ev_some _)
                  refine hj _ ?_
                  simp [c2]
                · exact h4 _ _ (by simp [c2]) (nop (fun h => c2 h.2.2.1))
              · exact ev_neg (by rw [decide_eq_true_eq]; exact c1) (h4 _ _ rfl (nop (fun h => c1 h.2.1)))
            · exact ev_neg (fun g => c0 (by rw [B_list] at g; exact g)) (h4 _ _ rfl (nop (fun h => c0 h.1)))
          · refine ev_neg (by rw [List.length_map]; omega) (h4 _ _ rfl (payOf_none (fun p hp => ?_)))
            obtain ⟨ta, ref, n, q1, q2, _⟩ := hp
            rw [q2] at hlen
            exact hlen rfl
    refine Ev.step (fun _ => rfl) ?_
    simp only [impl_ReadBank.l0]
    refine ev_pos (by omega) ?_
    by_cases h0 : rest = []
    · refine ev_pos (by rw [B_list]; exact h0) (hb3 _ ?_)
      symm; rw [decide_eq_true_eq]; exact Or.inl h0
    · refine ev_neg (by rw [B_list]; exact h0) ?_
      by_cases h2 : 2 ≤ rest.length
      · refine ev_pos (by rw [B_size]; omega) (ev_pos (by omega) (ev_pos (by rw [B_size]; omega) (hb3 _ ?_)))
        rw [stop_take, decide_eq_decide]
        exact ⟨fun h => Or.inr h, fun h => h.elim (fun h => absurd h h0) (fun h => h)⟩
      · refine ev_neg (by rw [B_size]; omega) (hb3 _ ?_)
        symm; rw [decide_eq_false_iff_not]
        rintro (h | h)
        · exact h0 h
        · have := congrArg List.length h
          rw [List.length_take] at this
          simp only [List.length_cons, List.length_nil] at this
          omega
noncomputable def headR (text : List UInt8) : Res := match fl1 text with
  | none => ([], 0, 1)
  | some (s, r) => if h : ∃ d c m : Nat, sp 124 [] s = [[72], dec d, dec c, mon m] ∧ d ≤ 40000 ∧ (1 ≤ c ∧ c ≤ 100) ∧ (1 ≤ m ∧ m ≤ 100000000000) then
      run text ((Classical.choose h : Nat) : Int) ((Classical.choose (Classical.choose_spec (Classical.choose_spec h)) : Nat) : Int) (Classical.choose (Classical.choose_spec h)) [] (s ++ [10]) r
    else ([], 0, 1)
theorem headR_none {text : List UInt8} (h : fl1 text = none) : headR text = ([], 0, 1) := by
  unfold headR; rw [h]
theorem headR_no {text s r : List UInt8} (h : fl1 text = some (s, r)) (k : ¬ ∃ d c m : Nat, sp 124 [] s = [[72], dec d, dec c, mon m] ∧ d ≤ 40000 ∧ (1 ≤ c ∧ c ≤ 100) ∧ (1 ≤ m ∧ m ≤ 100000000000)) : headR text = ([], 0, 1) := by
  unfold headR; rw [h]; exact dif_neg k
theorem headR_yes {text s r : List UInt8} (h : fl1 text = some (s, r)) {d c m : Nat} (k : sp 124 [] s = [[72], dec d, dec c, mon m] ∧ d ≤ 40000 ∧ (1 ≤ c ∧ c ≤ 100) ∧ (1 ≤ m ∧ m ≤ 100000000000)) : headR text = run text (d : Int) (m : Int) c [] (s ++ [10]) r := by
  have hx : ∃ d c m : Nat, sp 124 [] s = [[72], dec d, dec c, mon m] ∧ d ≤ 40000 ∧ (1 ≤ c ∧ c ≤ 100) ∧ (1 ≤ m ∧ m ≤ 100000000000) := ⟨d, c, m, k⟩
  have e : headR text = run text ((Classical.choose hx : Nat) : Int) ((Classical.choose (Classical.choose_spec (Classical.choose_spec hx)) : Nat) : Int) (Classical.choose (Classical.choose_spec hx)) [] (s ++ [10]) r := by
    unfold headR; rw [h]; exact dif_pos hx
  have q := Classical.choose_spec (Classical.choose_spec (Classical.choose_spec hx))
  rw [e]
  generalize Classical.choose (Classical.choose_spec (Classical.choose_spec hx)) = m' at *
  generalize Classical.choose (Classical.choose_spec hx) = c' at *
  generalize Classical.choose hx = d' at *
  have q1 := q.1
  rw [k.1] at q1
  injection q1 with _ q1
  injection q1 with e1 q1
  injection q1 with e2 q1
  injection q1 with e3 _
  have := mon_inj k.2.2.2.2 q.2.2.2.2 e3
  rw [dec_inj e1, dec_inj e2, this]
theorem i_j0t {text : List UInt8} {r : ByteArray} {f : List ByteArray} : Ev (fun k => impl_ReadBank.j0 k (B text) r f true) (([] : List Pay), 0, 1) := by
  refine Ev.step (fun _ => rfl) ?_
  simp only [impl_ReadBank.j0]
  exact ev_pos trivial (ev_some _)
theorem i_j1t {text : List UInt8} {r : ByteArray} {a b c : Int} : Ev (fun k => impl_ReadBank.j1 k (B text) r a b c true) (([] : List Pay), 0, 1) := by
  refine Ev.step (fun _ => rfl) ?_
  simp only [impl_ReadBank.j1]
  exact ev_pos trivial (ev_some _)
theorem isDay_eq (x : Int) : impl_isDay.f x = some (decide (0 ≤ x ∧ x ≤ 40000)) := by
  unfold impl_isDay.f
  rw [between_eq]
  rfl
theorem l2Day_eq (x : Int) : spec_l2Day.f x = some (decide (0 ≤ x ∧ x ≤ 40000)) := by
  unfold spec_l2Day.f
  rw [l1In_eq]
  rfl
theorem implBank (text : List UInt8) (hl : text.length ≤ 1100000) : Ev (fun k => impl_ReadBank.f k (B text)) (if text.length ≤ 20000 then headR text else ([], 0, 1)) := by
  unfold impl_ReadBank.f
  by_cases h20 : text.length ≤ 20000
  · rw [if_pos h20]
    refine ev_neg (by rw [B_size]; omega) (ev_bind (implFirst text hl) ?_)
    cases hf : fl1 text with
    | none =>
      rw [headR_none hf]
      show Ev (fun n => ((impl_cutAt.f n (B text) (⟨#[124]⟩ : ByteArray)).bind fun t281 => (if false = true then _ else (impl_ReadBank.j0 n (B text) (B []) t281 true)))) _
      exact ev_bind (cut1 text hl 124 (by decide)) (ev_neg (by simp) i_j0t)
    | some sr =>
      obtain ⟨s, r⟩ := sr
      have hre := fl1_some text s r hf
      have hrl : text.length = s.length + (r.length + 1) := by
        have := congrArg List.length hre
        simpa only [List.length_append, List.length_cons] using this
      show Ev (fun n => ((impl_cutAt.f n (B ([] ++ s)) (⟨#[124]⟩ : ByteArray)).bind fun t281 => (if true = true then _ else _))) _
      rw [List.nil_append]
      refine ev_bind (cut1 s (by omega) 124 (by decide)) (ev_pos rfl ?_)
      have h0 : ∀ (f : List ByteArray) (b : Bool), b = true → headR text = ([], 0, 1) → Ev (fun k => impl_ReadBank.j0 k (B text) (B r) f b) (headR text) := by
        intro f b hb hn
        subst hb
        rw [hn]
        exact i_j0t
      by_cases hlen : (sp 124 [] s).length = 4
      · obtain ⟨f0, f1, f2, f3, hsp⟩ := sp4 hlen
        have hsz := sp_sz s
        rw [hsp] at hsz ⊢
        have z1 := hsz f1 (by simp)
        have z2 := hsz f2 (by simp)
        have z3 := hsz f3 (by simp)
        have g0 : rdOf ByteArray.empty ([f0, f1, f2, f3].map B) 0 = B f0 := rfl
        have g1 : rdOf ByteArray.empty ([f0, f1, f2, f3].map B) 1 = B f1 := rfl
        have g2 : rdOf ByteArray.empty ([f0, f1, f2, f3].map B) 2 = B f2 := rfl
        have g3 : rdOf ByteArray.empty ([f0, f1, f2, f3].map B) 3 = B f3 := rfl
        rw [g0]
        refine ev_pos rfl (ev_pos (by simp) ?_)
        have nop : (¬ (f0 = [72] ∧ ∃ d c m : Nat, f1 = dec d ∧ f2 = dec c ∧ f3 = mon m ∧ d ≤ 40000 ∧ (1 ≤ c ∧ c ≤ 100) ∧ (1 ≤ m ∧ m ≤ 100000000000))) → headR text = ([], 0, 1) := fun h => headR_no hf (fun ⟨d, c, m, q, q1⟩ => by
          rw [hsp] at q
          injection q with e0 q
          injection q with e1 q
          injection q with e2 q
          injection q with e3 _
          exact h ⟨e0, d, c, m, e1, e2, e3, q1⟩)
        by_cases c0 : f0 = [72]
        · have hj : ∀ b : Bool, b = false → Ev (fun k => impl_ReadBank.j0 k (B text) (B r) ([f0, f1, f2, f3].map B) b) (headR text) := by
            intro b hb
            refine Ev.step (fun _ => rfl) ?_
            simp only [impl_ReadBank.j0]
            rw [g1, g2, g3]
            obtain ⟨v1, hv1, w1⟩ := implD f1 (by omega)
            obtain ⟨v2, hv2, w2⟩ := implD f2 (by omega)
            obtain ⟨v3, hv3, w3⟩ := implM f3 (by omega)
            refine ev_neg (by simp [hb]) (ev_pos (by simp) (ev_bind hv1 (ev_pos (by simp) (ev_bind hv2 (ev_pos (by simp) (ev_bind hv3 ?_))))))
            have bad : headR text = ([], 0, 1) → ∀ (a b c : Int), Ev (fun k => impl_ReadBank.j1 k (B text) (B r) a b c true) (headR text) := fun hn a b c => by
              rw [hn]; exact i_j1t
            rcases w1 with ⟨o1, d, hd, p1⟩ | ⟨o1, p1⟩
            · refine ev_pos o1 ?_
              rcases w2 with ⟨o2, c, hc, p2⟩ | ⟨o2, p2⟩
              · refine ev_pos o2 ?_
                rcases w3 with ⟨o3, m, hm, p3⟩ | ⟨o3, p3⟩
                · refine ev_pos o3 ?_
                  rw [p1, p2, p3]
                  refine ev_bind0 (isDay_eq _) ?_
                  by_cases c1 : d ≤ 40000
                  · refine ev_pos (by rw [decide_eq_true_eq]; omega) (ev_bind0 (between_eq _ _ _) ?_)
                    by_cases c2 : 1 ≤ c ∧ c ≤ 100
                    · have hy := headR_yes hf (d := d) (c := c) (m := m) ⟨by rw [hsp, c0, hd.2, hc.2, hm.2], c1, c2, hm.1⟩
                      have hj1 : ∀ b : Bool, b = false → Ev (fun k => impl_ReadBank.j1 k (B text) (B r) (d : Int) (c : Int) (m : Int) b) (headR text) := by
                        intro b hb
                        refine Ev.step (fun _ => rfl) ?_
                        simp only [impl_ReadBank.j1]
                        refine ev_neg (by simp [hb]) ?_
                        rw [hy]
                        have := implRun text h20 (d : Int) (m : Int) c [] (s ++ [10]) r (by rw [hre]; simp) (by simp only [List.length_nil]; omega) (fun p hp => by cases hp)
                        simpa [sumP] using this
                      refine hj1 _ ?_
                      have : decide ((1 : Int) ≤ (c : Int) ∧ (c : Int) ≤ 100) = true := by rw [decide_eq_true_eq]; omega
                      rw [this]; rfl
                    · have : decide ((1 : Int) ≤ (c : Int) ∧ (c : Int) ≤ 100) = false := by rw [decide_eq_false_iff_not]; omega
                      rw [this]
                      refine bad (nop ?_) _ _ _
                      rintro ⟨_, d', c', m', q1, q2, q3, q4, q5, q6⟩
                      exact c2 (by rw [dec_inj (hc.2.symm.trans q2)]; exact q5)
                  · refine ev_neg (by rw [decide_eq_true_eq]; omega) (bad (nop ?_) _ _ _)
                    rintro ⟨_, d', c', m', q1, q2, q3, q4, q5, q6⟩
                    exact c1 (by rw [dec_inj (hd.2.symm.trans q1)]; exact q4)
                · refine ev_neg (by rw [o3]; simp) (bad (nop ?_) _ _ _)
                  rintro ⟨_, d', c', m', q1, q2, q3, q4, q5, q6⟩
                  exact p3 ⟨m', q6, q3⟩
              · refine ev_neg (by rw [o2]; simp) (bad (nop ?_) _ _ _)
                rintro ⟨_, d', c', m', q1, q2, q3, q4, q5, q6⟩
                exact p2 ⟨c', by omega, q2⟩
            · refine ev_neg (by rw [o1]; simp) (bad (nop ?_) _ _ _)
              rintro ⟨_, d', c', m', q1, q2, q3, q4, q5, q6⟩
              exact p1 ⟨d', by omega, q1⟩
          refine hj _ ?_
          rw [c0, B_list]
          rfl
        · refine h0 _ _ ?_ (nop (fun h => c0 h.1))
          rw [B_list, bne_iff_ne]
          exact c0
      · refine ev_neg (by rw [List.length_map]; omega) (h0 _ _ rfl (headR_no hf ?_))
        rintro ⟨d, c, m, q, _⟩
        rw [q] at hlen
        exact hlen rfl
  · rw [if_neg h20]
    exact ev_pos (by rw [B_size]; omega) (ev_some _)
end Go.Proofs.Ytmpknbdbichdiaa.PFnExactReadBank

set_option linter.unusedVariables false
set_option linter.unusedSimpArgs false
namespace Go.Proofs.Ytmpknbdbichdiaa.PFnExactReadBank
open Go Go.RowKit Go.Proofs.YtmpknbdbichdiaaW.PrintWords Go.Proofs.YtmpknbdbichdiaaW.PrintLast Go.Proofs.Ytmpknbdbichdiaa.MapWords Go.Proofs.Ytmpknbdbichdiaa.IterWords Go.Proofs.Ytmpknbdbichdiaa.EvWords
open Classical
theorem specSum (L : List Pay) (h : ∀ p ∈ L, okP p) (hl : L.length ≤ 1000) : Ev (fun k => spec_l14Sum.f k L) (sumP L) := by
  have main : ∀ (d i : Nat), i + d = L.length → Ev (fun k => spec_l14Sum.l0 k L (sumP (L.take i)) (i : Int)) (sumP L) := by
    intro d
    induction d with
    | zero =>
      intro i hi
      refine Ev.step (fun _ => rfl) ?_
      simp only [spec_l14Sum.l0]
      refine ev_neg (by omega) (ev_eq (ev_some _) ?_)
      rw [List.take_of_length_le (by omega)]
    | succ d ih =>
      intro i hi
      have hlt : i < L.length := by omega
      have hbd := sumP_bd (L.take i) (fun p hp => h p (List.mem_of_mem_take hp))
      have hl2 : (L.take i).length ≤ 1000 := by rw [List.length_take]; omega
      obtain ⟨ta, ref, n, hg, hpe⟩ := h (py L i) (mem_rd hlt)
      have hn := hg.2.2
      have e1 : L.take (i + 1) = L.take i ++ [py L i] := by
        rw [List.take_succ_eq_append_getElem hlt]
        unfold py
        rw [List.getD_eq_getElem?_getD, List.getElem?_eq_getElem hlt]
        rfl
      have ih' := ih (i + 1) (by omega)
      rw [e1, sumP_app] at ih'
      refine Ev.step (fun _ => rfl) ?_
      simp only [spec_l14Sum.l0, py_rd]
      have hf : (py L i).f2 = (n : Int) := by rw [hpe]
      rw [hf] at ih' ⊢
      rw [wrap_id (by omega) (by omega), wrap_succ hlt (by omega)]
      exact ev_pos (by omega) (ev_pos (by omega) ih')
  have := main L.length 0 (by omega)
  simpa [spec_l14Sum.f, sumP] using this
theorem specPay (a b : List UInt8) (v : Int) (ha : a.length ≤ 1100000) (hb : b.length ≤ 1100000) : Ev (fun k => spec_l14Pay.f k (B a) (B b) v) (decide (acctP a ∧ nameP (B b) ∧ 1 ≤ v ∧ v ≤ 100000000000)) := by
  unfold spec_l14Pay.f
  refine ev_bind (specAcct a ha) ?_
  by_cases h1 : acctP a
  · refine ev_pos (by rw [decide_eq_true_eq]; exact h1) (ev_bind (specName (B b) (by rw [B_size]; omega)) ?_)
    by_cases h2 : nameP (B b)
    · refine ev_pos (by rw [decide_eq_true_eq]; exact h2) (ev_bind0 (l1In_eq _ _ _) (ev_eq (ev_some _) ?_))
      rw [decide_eq_decide]
      exact ⟨fun h => ⟨h1, h2, h⟩, fun h => h.2.2⟩
    · refine ev_neg (by rw [decide_eq_true_eq]; exact h2) (ev_eq (ev_some _) ?_)
      symm; rw [decide_eq_false_iff_not]; exact fun h => h2 h.2.1
  · refine ev_neg (by rw [decide_eq_true_eq]; exact h1) (ev_eq (ev_some _) ?_)
    symm; rw [decide_eq_false_iff_not]; exact fun h => h1 h.1
noncomputable def lineOfP (p : Pay) : List UInt8 := [80, 124] ++ (p.f0.toList ++ (124 :: (p.f1.toList ++ (124 :: mon p.f2.toNat)))) ++ [10]
noncomputable def bodyP : List Pay → List UInt8
  | [] => []
  | p :: L => lineOfP p ++ bodyP L
theorem body_app : ∀ (L : List Pay) (p : Pay), bodyP (L ++ [p]) = bodyP L ++ lineOfP p := by
  intro L
  induction L with
  | nil => intro p; show lineOfP p ++ [] = [] ++ lineOfP p; simp
  | cons q L ih => intro p; show lineOfP q ++ bodyP (L ++ [p]) = (lineOfP q ++ bodyP L) ++ lineOfP p; rw [ih, List.append_assoc]
theorem line_pay (ta ref : List UInt8) (n : Nat) : lineOfP ⟨B ta, B ref, (n : Int)⟩ = lineP ta ref n ++ [10] := by
  unfold lineOfP lineP
  simp only [B_list, Int.toNat_natCast]
theorem line_len {p : Pay} (h : okP p) : (lineOfP p).length ≤ 100 := by
  obtain ⟨ta, ref, n, hg, rfl⟩ := h
  rw [line_pay]
  unfold lineP
  have h1 := hg.1.1.2
  have h2 := hg.2.1.2.1
  rw [B_size] at h2
  have h3 := (mon_len hg.2.2.2).2
  simp only [List.length_append, List.length_cons, List.length_nil]
  omega
theorem body_len : ∀ (L : List Pay), (∀ p ∈ L, okP p) → (bodyP L).length ≤ 100 * L.length := by
  intro L
  induction L with
  | nil => intro _; simp [bodyP]
  | cons p L ih =>
    intro h
    have h1 := ih (fun q hq => h q (by simp [hq]))
    have h2 := line_len (h p (by simp))
    show (lineOfP p ++ bodyP L).length ≤ 100 * (L.length + 1)
    rw [List.length_append]
    omega
noncomputable def hdP (d c m : Nat) : List UInt8 := [72, 124] ++ dec d ++ [124] ++ dec c ++ [124] ++ mon m ++ [10]
theorem hd_len {d c m : Nat} (hd : d ≤ 40000) (hc : c ≤ 100) (hm : m ≤ 100000000000) : (hdP d c m).length ≤ 100 := by
  unfold hdP
  have h1 := dec_len (d := 5) (n := d) (by omega)
  have h2 := dec_len (d := 5) (n := c) (by omega)
  have h3 := (mon_len hm).2
  simp only [List.length_append, List.length_cons, List.length_nil]
  omega
noncomputable def tlP (t : List UInt8) : List UInt8 := [84, 124] ++ dec (bck 7 t) ++ [10]
theorem specWrite (d : Nat) (hd : d ≤ 40000) (L : List Pay) (h : ∀ p ∈ L, okP p) (hl : 1 ≤ L.length ∧ L.length ≤ 100) (hs : sumP L ≤ 100000000000) :
    Ev (fun k => spec_WriteBank.f k (d : Int) L) (B (if (hdP d L.length (sumP L).toNat ++ bodyP L ++ tlP (hdP d L.length (sumP L).toNat ++ bodyP L)).length ≤ 20000 then hdP d L.length (sumP L).toNat ++ bodyP L ++ tlP (hdP d L.length (sumP L).toNat ++ bodyP L) else [])) := by
  have hbd := sumP_bd L h
  obtain ⟨m, hm⟩ : ∃ m : Nat, sumP L = (m : Int) := ⟨(sumP L).toNat, by omega⟩
  have hmt : (sumP L).toNat = m := by omega
  rw [hmt]
  have hsum := specSum L h (by omega)
  rw [hm] at hsum hs
  have hm11 : m ≤ 100000000000 := by omega
  have hhd := hd_len hd hl.2 hm11
  have hbl := body_len L h
  have hT : Ev (fun k => spec_WriteBank.l1 k L (B (hdP d L.length m)) 0) (B (if (hdP d L.length m ++ bodyP L ++ tlP (hdP d L.length m ++ bodyP L)).length ≤ 20000 then hdP d L.length m ++ bodyP L ++ tlP (hdP d L.length m ++ bodyP L) else [])) := by
    have main : ∀ (e i : Nat), i + e = L.length → Ev (fun k => spec_WriteBank.l1 k L (B (hdP d L.length m ++ bodyP (L.take i))) (i : Int)) (B (if (hdP d L.length m ++ bodyP L ++ tlP (hdP d L.length m ++ bodyP L)).length ≤ 20000 then hdP d L.length m ++ bodyP L ++ tlP (hdP d L.length m ++ bodyP L) else [])) := by
      intro e
      induction e with
      | zero =>
        intro i hi
        have hT : L.take i = L := List.take_of_length_le (by omega)
        rw [hT]
        have hxl : (hdP d L.length m ++ bodyP L).length ≤ 10100 := by rw [List.length_append]; omega
        refine Ev.step (fun _ => rfl) ?_
        simp only [spec_WriteBank.l1]
        generalize hdP d L.length m ++ bodyP L = X at *
        have hck := bck_lt X 7 (by omega)
        have hdl := dec_len (d := 4) (n := bck 7 X) (by omega)
        have e2 : B X ++ (⟨#[84, 124]⟩ : ByteArray) = B (X ++ [84, 124]) := B_app X [84, 124]
        refine ev_neg (by omega) (ev_pos (by rw [B_size]; omega) (ev_bind (specCk X (by omega)) (ev_bind (specDec _ (by omega)) ?_)))
        have e3 : B (X ++ [84, 124] ++ dec (bck 7 X)) ++ (⟨#[10]⟩ : ByteArray) = B (X ++ [84, 124] ++ dec (bck 7 X) ++ [10]) := B_app _ [10]
        rw [e2, B_app, e3]
        have e4 : X ++ [84, 124] ++ dec (bck 7 X) ++ [10] = X ++ tlP X := by unfold tlP; simp
        rw [e4]
        have hz : (X ++ tlP X).length = X.length + (3 + (dec (bck 7 X)).length) := by
          unfold tlP
          simp only [List.length_append, List.length_cons, List.length_nil]; omega
        refine ev_pos (by rw [B_size, B_size]; simp only [List.length_append, List.length_cons, List.length_nil]; omega) (ev_pos (by rw [B_size]; simp only [List.length_append, List.length_cons, List.length_nil]; omega) ?_)
        by_cases h20 : (X ++ tlP X).length ≤ 20000
        · rw [if_pos h20]
          exact ev_neg (by rw [B_size]; omega) (ev_some _)
        · rw [if_neg h20]
          exact ev_pos (by rw [B_size]; omega) (ev_some _)
      | succ e ih =>
        intro i hi
        have hlt : i < L.length := by omega
        obtain ⟨ta, ref, n, hg, hpe⟩ := h (py L i) (mem_rd hlt)
        have hn := hg.2.2
        have e1 : L.take (i + 1) = L.take i ++ [py L i] := by
          rw [List.take_succ_eq_append_getElem hlt]
          unfold py
          rw [List.getD_eq_getElem?_getD, List.getElem?_eq_getElem hlt]
          rfl
        have ih' := ih (i + 1) (by omega)
        rw [e1, body_app, hpe, line_pay, ← List.append_assoc] at ih'
        have hxl : (hdP d L.length m ++ bodyP (L.take i)).length ≤ 10100 := by
          have h5 := body_len (L.take i) (fun p hp => h p (List.mem_of_mem_take hp))
          rw [List.length_take] at h5
          rw [List.length_append]; omega
        have hf0 : (py L i).f0 = B ta := by rw [hpe]
        have hf1 : (py L i).f1 = B ref := by rw [hpe]
        have hf2 : (py L i).f2 = (n : Int) := by rw [hpe]
        refine Ev.step (fun _ => rfl) ?_
        simp only [spec_WriteBank.l1, py_rd, hf0, hf1, hf2, wrap_succ hlt (show L.length ≤ 9223372036854775807 by omega)]
        generalize hdP d L.length m ++ bodyP (L.take i) = X at *
        have z1 := hg.1.1.2
        have z2 := hg.2.1.2.1
        rw [B_size] at z2
        have z3 := (mon_len hn.2).2
        have k1 : B X ++ (⟨#[80, 124]⟩ : ByteArray) = B (X ++ [80, 124]) := B_app X [80, 124]
        have k2 : ∀ Y : List UInt8, B Y ++ (⟨#[124]⟩ : ByteArray) = B (Y ++ [124]) := fun Y => B_app Y [124]
        have k3 : ∀ Y : List UInt8, B Y ++ (⟨#[10]⟩ : ByteArray) = B (Y ++ [10]) := fun Y => B_app Y [10]
        rw [k1, B_app, k2, B_app, k2]
        refine ev_pos (by omega) (ev_pos (by rw [B_size]; omega) (ev_pos (by omega) (ev_pos (by rw [B_size, B_size]; simp only [List.length_append, List.length_cons, List.length_nil]; omega) (ev_pos (by rw [B_size]; simp only [List.length_append, List.length_cons, List.length_nil]; omega) (ev_pos (by rw [B_size, B_size]; simp only [List.length_append, List.length_cons, List.length_nil]; omega) (ev_pos (by rw [B_size]; simp only [List.length_append, List.length_cons, List.length_nil]; omega) (ev_bind (specMoney n hn.2) ?_)))))))
        rw [B_app, k3]
        refine ev_pos (by rw [B_size, B_size]; simp only [List.length_append, List.length_cons, List.length_nil]; omega) (ev_pos (by rw [B_size]; simp only [List.length_append, List.length_cons, List.length_nil]; omega) ?_)
        have e9 : X ++ [80, 124] ++ ta ++ [124] ++ ref ++ [124] ++ mon n ++ [10] = X ++ (lineP ta ref n ++ [10]) := by
          unfold lineP; simp
        rw [e9]
        exact ih'
    have := main L.length 0 (by omega)
    simpa [bodyP] using this
  unfold spec_WriteBank.f
  refine ev_bind0 (l2Day_eq _) (ev_pos (by rw [decide_eq_true_eq]; omega) (ev_bind0 (l1In_eq _ _ _) ?_))
  have hj : ∀ b : Bool, b = false → Ev (fun k => spec_WriteBank.j0 k (d : Int) L b) (B (if (hdP d L.length m ++ bodyP L ++ tlP (hdP d L.length m ++ bodyP L)).length ≤ 20000 then hdP d L.length m ++ bodyP L ++ tlP (hdP d L.length m ++ bodyP L) else [])) := by
    intro b hb
    refine Ev.step (fun _ => rfl) ?_
    simp only [spec_WriteBank.j0]
    refine ev_neg (by simp [hb]) ?_
    refine ev_pass (F := fun k x => spec_WriteBank.l0 k (d : Int) L x) (n := L.length) ?_ ?_
    · refine Ev.step (fun _ => rfl) ?_
      simp only [spec_WriteBank.l0]
      refine ev_neg (by omega) (ev_bind hsum (ev_bind0 (l1Amount_eq _) (ev_pos (by rw [decide_eq_true_eq]; unfold amP; omega) (ev_bind (specDec d (by omega)) ?_))))
      have k0 : ∀ Y : List UInt8, (⟨#[72, 124]⟩ : ByteArray) ++ B Y = B ([72, 124] ++ Y) := fun Y => B_app [72, 124] Y
      have k2 : ∀ Y : List UInt8, B Y ++ (⟨#[124]⟩ : ByteArray) = B (Y ++ [124]) := fun Y => B_app Y [124]
      have k3 : ∀ Y : List UInt8, B Y ++ (⟨#[10]⟩ : ByteArray) = B (Y ++ [10]) := fun Y => B_app Y [10]
      have y1 := dec_len (d := 5) (n := d) (by omega)
      have y2 := dec_len (d := 5) (n := L.length) (by omega)
      have y3 := (mon_len hm11).2
      rw [k0, k2]
      refine ev_pos (by rw [B_size]; omega) (ev_pos (by rw [B_size]; simp only [List.length_append, List.length_cons, List.length_nil]; omega) (ev_bind (specDec L.length (by omega)) ?_))
      rw [B_app, k2]
      refine ev_pos (by rw [B_size, B_size]; simp only [List.length_append, List.length_cons, List.length_nil]; omega) (ev_pos (by rw [B_size]; simp only [List.length_append, List.length_cons, List.length_nil]; omega) (ev_bind hsum (ev_bind (specMoney m hm11) ?_)))
      rw [B_app, k3]
      exact ev_pos (by rw [B_size, B_size]; simp only [List.length_append, List.length_cons, List.length_nil]; omega) (ev_pos (by rw [B_size]; simp only [List.length_append, List.length_cons, List.length_nil]; omega) hT)
    · intro i r hi hr
      obtain ⟨ta, ref, n, hg, hpe⟩ := h (py L i) (mem_rd hi)
      have hn := hg.2.2
      have hf0 : (py L i).f0 = B ta := by rw [hpe]
      have hf1 : (py L i).f1 = B ref := by rw [hpe]
      have hf2 : (py L i).f2 = (n : Int) := by rw [hpe]
      have z1 := hg.1.1.2
      have z2 := hg.2.1.2.1
      rw [B_size] at z2
      refine Ev.step (fun _ => rfl) ?_
      simp only [spec_WriteBank.l0, py_rd, hf0, hf1, hf2, wrap_succ hi (show L.length ≤ 9223372036854775807 by omega)]
      exact ev_pos (by omega) (ev_pos (by omega) (ev_bind (specPay ta ref (n : Int) (by omega) (by omega)) (ev_pos (by rw [decide_eq_true_eq]; exact ⟨hg.1, hg.2.1, by omega, by omega⟩) hr)))
  refine hj _ ?_
  have : decide ((1 : Int) ≤ ((L.length : Nat) : Int) ∧ ((L.length : Nat) : Int) ≤ 100) = true := by rw [decide_eq_true_eq]; omega
  rw [this]; rfl
theorem lns_len : ∀ (r : List UInt8), lns [] r = [] ↔ r = [] := by
  intro r
  rw [lns_fl]
  cases h : fl1 r with
  | none =>
    show (if [] ++ r = [] then [] else [[] ++ r]) = [] ↔ _
    rw [List.nil_append]
    by_cases hr : r = []
    · rw [if_pos hr]; simp [hr]
    · rw [if_neg hr]; simp [hr]
  | some ab =>
    obtain ⟨a, b⟩ := ab
    have := fl1_some r a b h
    rw [this]; simp
section
variable {text : List UInt8} {ls : List (List UInt8)} {day cnt sum x : Int} {acc : List Pay}
theorem s_j4t : Ev (fun k => spec_ReadBank.j4 k (B text) [] (ls.map B) day cnt sum acc x true) (([] : List Pay), 0, 3) := by
  refine Ev.step (fun _ => rfl) ?_
  simp only [spec_ReadBank.j4]
  exact ev_pos trivial (ev_some _)
theorem s_j5t {f : List ByteArray} : Ev (fun k => spec_ReadBank.j5 k (B text) [] (ls.map B) day cnt sum acc x f true) (([] : List Pay), 0, 2) := by
  refine Ev.step (fun _ => rfl) ?_
  simp only [spec_ReadBank.j5]
  exact ev_pos trivial (ev_some _)
end
theorem last10 (s : List UInt8) : bt (B (s ++ [10])) ((s.length : Nat) : Int) = 10 := bt_mid s [] 10
theorem lastno {rest : List UInt8} (h : fl1 rest = none) (h0 : rest ≠ []) : ∃ y : Nat, bt (B rest) ((rest.length - 1 : Nat) : Int) = (y : Int) ∧ y ≠ 10 := by
  have hno : ∀ (l : List UInt8), fl1 l = none → ∀ c ∈ l, c ≠ 10 := by
    intro l
    induction l with
    | nil => intro _ c hc; cases hc
    | cons a l ih =>
      intro hl c hc
      rw [fl1] at hl
      by_cases ha : a = 10
      · rw [if_pos ha] at hl; cases hl
      · rw [if_neg ha] at hl
        cases hr : fl1 l with
        | none =>
          rcases List.mem_cons.1 hc with rfl | hc
          · exact ha
          · exact ih hr c hc
        | some ab => obtain ⟨p, q⟩ := ab; rw [hr] at hl; cases hl
  have hlen : rest.length - 1 < rest.length := by
    have : 0 < rest.length := List.length_pos_iff.2 h0
    omega
  refine ⟨(rest[rest.length - 1]).toNat, B_bt rest _ hlen, fun e => ?_⟩
  exact hno rest h _ (List.getElem_mem hlen) ((u8_eq _ 10 (by omega)).1 (by omega))
theorem sp_nl {s : List UInt8} : ∃ ps z, sp 124 [] s = ps ++ [z] ∧ sp 124 [] (s ++ [10]) = ps ++ [z ++ [10]] := sp_last 124 10 (by decide) s []
theorem sp_nl4 {s : List UInt8} : (sp 124 [] (s ++ [10])).length = (sp 124 [] s).length := by
  obtain ⟨ps, z, h1, h2⟩ := sp_nl (s := s)
  rw [h1, h2]; simp
theorem sp_nl_of {s a b c d : List UInt8} (h : sp 124 [] s = [a, b, c, d]) : sp 124 [] (s ++ [10]) = [a, b, c, d ++ [10]] := by
  obtain ⟨ps, z, h1, h2⟩ := sp_nl (s := s)
  rw [h] at h1
  have e1 : ps = [a, b, c] ∧ z = d := by
    have h3 : [a, b, c, d] = [a, b, c] ++ [d] := rfl
    rw [h3] at h1
    have h4 := List.append_inj' h1 rfl
    exact ⟨h4.1.symm, (List.cons.inj h4.2).1.symm⟩
  rw [h2, e1.1, e1.2]
  rfl
theorem specRun (text : List UInt8) (hl : text.length ≤ 20000) (d cnt m : Nat) (hd : d ≤ 40000) (hcnt : 1 ≤ cnt ∧ cnt ≤ 100) (hm : 1 ≤ m ∧ m ≤ 100000000000) (ls : List (List UInt8)) : ∀ (c : Nat) (acc : List Pay) (pre rest : List UInt8), text = pre ++ rest → pre = hdP d cnt m ++ bodyP acc → acc.length + c = cnt → (∀ p ∈ acc, okP p) → ls.drop (acc.length + 1) = lns [] rest → acc.length + 1 ≤ ls.length → ls.length ≤ 40000 → (∀ y ∈ ls, y.length ≤ 20000) →
    Ev (fun k => spec_ReadBank.l0 k (B text) [] (ls.map B) (d : Int) (cnt : Int) (m : Int) acc ((acc.length + 1 : Nat) : Int)) (run text (d : Int) (m : Int) c acc pre rest) := by
  intro c
  induction c with
  | zero =>
    intro acc pre rest he hpre hc hp hls hll hl4 hly
    refine Ev.step (fun _ => rfl) ?_
    simp only [spec_ReadBank.l0]
    refine ev_neg (by omega) (ev_bind (specSum acc hp (by omega)) ?_)
    show Ev _ (tailR text (d : Int) (m : Int) acc pre rest)
    unfold tailR
    by_cases hs : sumP acc = (m : Int)
    · rw [if_pos hs]
      have hw := specWrite d hd acc hp (by omega) (by omega)
      have hmt : (sumP acc).toNat = m := by omega
      have hal : acc.length = cnt := by omega
      rw [hmt, hal, ← hpre] at hw
      refine ev_pos hs (ev_bind hw ?_)
      have hne : 0 < text.length := by
        rw [he, hpre]
        unfold hdP
        simp only [List.length_append, List.length_cons, List.length_nil]; omega
      show Ev (fun n => if (B (if (pre ++ tlP pre).length ≤ 20000 then pre ++ tlP pre else [])).toList = (B text).toList then some (acc, (d : Int), (0 : Int)) else some (([] : List Pay), (0 : Int), (5 : Int))) (if rest = tlP pre then (acc, (d : Int), (0 : Int)) else ([], 0, 5))
      by_cases hr : rest = tlP pre
      · rw [if_pos hr]
        have e : text = pre ++ tlP pre := by rw [he, hr]
        rw [← e]
        rw [if_pos hl]
        exact ev_pos rfl (ev_some _)
      · rw [if_neg hr]
        refine ev_neg (fun g => ?_) (ev_some _)
        rw [B_list, B_list] at g
        by_cases h20 : (pre ++ tlP pre).length ≤ 20000
        · rw [if_pos h20, he] at g
          exact hr (List.append_cancel_left g).symm
        · rw [if_neg h20] at g
          rw [← g] at hne
          exact absurd hne (by simp)
    · rw [if_neg hs]
      exact ev_neg hs (ev_some _)
  | succ c ih =>
    intro acc pre rest he hpre hc hp hls hll hl4 hly
    have hz : text.length = pre.length + rest.length := by rw [he, List.length_append]
    have hat : acc.length + 1 < ls.length → nmb ls (acc.length + 1) :: ls.drop (acc.length + 1 + 1) = lns [] rest := by
      intro h
      rw [← hls, List.drop_eq_getElem_cons h]
      unfold nmb
      rw [List.getD_eq_getElem?_getD, List.getElem?_eq_getElem h]
      rfl
    have h0iff : rest = [] ↔ ls.length ≤ acc.length + 1 := by
      rw [← lns_len, ← hls]
      exact List.drop_eq_nil_iff
    refine Ev.step (fun _ => rfl) ?_
    simp only [spec_ReadBank.l0]
    refine ev_pos (by omega) ?_
    rw [run]
    by_cases h0 : rest = []
    · rw [if_pos (show stopP rest from Or.inl h0)]
      refine ev_pos (by rw [List.length_map]; have := h0iff.1 h0; omega) s_j4t
    · have hlt : acc.length + 1 < ls.length := Nat.lt_of_not_le (fun h => h0 (h0iff.2 h))
      have hcons := hat hlt
      have hlz := hly (nmb ls (acc.length + 1)) (mem_rd hlt)
      have hrd := nmb_rd ls (acc.length + 1) hlt
      refine ev_neg (by rw [List.length_map]; omega) (ev_pos (by omega) (ev_pos (by rw [List.length_map]; omega) ?_))
      rw [hrd]
      have hfl := lns_fl rest []
      have hj4 : ∀ (L : List UInt8) (b : Bool), nmb ls (acc.length + 1) = L → b = false → ¬ stopP rest → (∀ (hne : 1 ≤ L.length), True) → Ev (fun k => spec_ReadBank.j4 k (B text) [] (ls.map B) (d : Int) (cnt : Int) (m : Int) acc ((acc.length + 1 : Nat) : Int) b) (match fl1 rest with | none => (([] : List Pay), (0 : Int), (2 : Int)) | some (s, r) => match payOf s with | none => (([] : List Pay), (0 : Int), (2 : Int)) | some p => run text (d : Int) (m : Int) c (acc ++ [p]) (pre ++ s ++ [10]) r) := by
        intro L b hL hb hs _
        refine Ev.step (fun _ => rfl) ?_
        simp only [spec_ReadBank.j4]
        rw [hrd, hL]
        rw [hL] at hlz hcons
        refine ev_neg (by simp [hb]) (ev_pos (by omega) (ev_pos (by rw [List.length_map]; omega) (ev_bind (split1 L (by omega) 124) ?_)))
        have hL1 : 1 ≤ L.length := (lns_bd rest []).2 L (by rw [← hcons]; simp) |>.1
        have hw : wrap64 (((B L).size : Int) - 1) = ((L.length - 1 : Nat) : Int) := by
          rw [B_size, wrap_id (by omega) (by omega)]; omega
        rw [hw]
        have five : ∀ (f : List ByteArray) (b : Bool), b = true → (match fl1 rest with | none => (([] : List Pay), (0 : Int), (2 : Int)) | some (s, r) => match payOf s with | none => (([] : List Pay), (0 : Int), (2 : Int)) | some p => run text (d : Int) (m : Int) c (acc ++ [p]) (pre ++ s ++ [10]) r) = (([] : List Pay), (0 : Int), (2 : Int)) → Ev (fun k => spec_ReadBank.j5 k (B text) [] (ls.map B) (d : Int) (cnt : Int) (m : Int) acc ((acc.length + 1 : Nat) : Int) f b) (match fl1 rest with | none => (([] : List Pay), (0 : Int), (2 : Int)) | some (s, r) => match payOf s with | none => (([] : List Pay), (0 : Int), (2 : Int)) | some p => run text (d : Int) (m : Int) c (acc ++ [p]) (pre ++ s ++ [10]) r) := by
          intro f b hb hn
          subst hb
          rw [hn]
          exact s_j5t
        cases hf : fl1 rest with
        | none =>
          rw [hf] at hfl five
          simp only [List.nil_append, h0, if_false] at hfl
          rw [hfl] at hcons
          have hLr : L = rest := by injection hcons
          obtain ⟨y, hy1, hy2⟩ := lastno hf h0
          rw [← hLr] at hy1
          by_cases hlen : (sp 124 [] L).length = 4
          · refine ev_pos (by rw [List.length_map]; omega) (ev_pos (by rw [List.length_map]; omega) ?_)
            by_cases c0 : (rdOf ByteArray.empty ((sp 124 [] L).map B) 0).toList = [80]
            · refine ev_pos c0 (ev_pos (by omega) (ev_pos (by rw [B_size]; omega) (five _ _ ?_ rfl)))
              rw [hy1, bne_iff_ne]
              omega
            · exact ev_neg c0 (five _ _ rfl rfl)
          · exact ev_neg (by rw [List.length_map]; omega) (five _ _ rfl rfl)
        | some sr =>
          obtain ⟨s, r⟩ := sr
          rw [hf] at hfl five
          simp only [List.nil_append] at hfl five
          rw [hfl] at hcons
          have hLs : L = s ++ [10] := by injection hcons
          have hdr : ls.drop (acc.length + 1 + 1) = lns [] r := by injection hcons
          have hre := fl1_some rest s r hf
          have hrl : rest.length = s.length + (r.length + 1) := by rw [hre]; simp only [List.length_append, List.length_cons]
          have hLl : L.length - 1 = s.length := by rw [hLs]; simp
          subst hLs
          rw [hLl]
          rw [last10]
          show Ev _ (match payOf s with | none => (([] : List Pay), (0 : Int), (2 : Int)) | some p => run text (d : Int) (m : Int) c (acc ++ [p]) (pre ++ s ++ [10]) r)
          by_cases hlen : (sp 124 [] s).length = 4
          · obtain ⟨f0, f1, f2, f3, hsp⟩ := sp4 hlen
            have hsp2 := sp_nl_of hsp
            have hsz := sp_sz s
            rw [hsp] at hsz
            rw [hsp2]
            have z1 := hsz f1 (by simp)
            have z2 := hsz f2 (by simp)
            have z3 := hsz f3 (by simp)
            have g0 : rdOf ByteArray.empty ([f0, f1, f2, f3 ++ [10]].map B) 0 = B f0 := rfl
            have g1 : rdOf ByteArray.empty ([f0, f1, f2, f3 ++ [10]].map B) 1 = B f1 := rfl
            have g2 : rdOf ByteArray.empty ([f0, f1, f2, f3 ++ [10]].map B) 2 = B f2 := rfl
            have g3 : rdOf ByteArray.empty ([f0, f1, f2, f3 ++ [10]].map B) 3 = B (f3 ++ [10]) := rfl
            rw [g0]
            refine ev_pos rfl (ev_pos (by simp) ?_)
            have nop : (¬ (f0 = [80] ∧ acctP f1 ∧ nameP (B f2) ∧ ∃ n, isMon f3 n)) → payOf s = none := fun h => payOf_none (fun p hp => by
              obtain ⟨ta, ref, n, q1, q2, _⟩ := hp
              rw [hsp] at q2
              injection q2 with e0 q2
              injection q2 with e1 q2
              injection q2 with e2 q2
              injection q2 with e3 _
              exact h ⟨e0, by rw [e1]; exact q1.1, by rw [e2]; exact q1.2.1, n, q1.2.2, e3⟩)
            by_cases c0 : f0 = [80]
            · refine ev_pos (by rw [c0, B_list]) (ev_pos (by omega) (ev_pos (by rw [B_size]; simp only [List.length_append, List.length_cons, List.length_nil]; omega) ?_))
              have hj : ∀ b : Bool, b = false → Ev (fun k => spec_ReadBank.j5 k (B text) [] (ls.map B) (d : Int) (cnt : Int) (m : Int) acc ((acc.length + 1 : Nat) : Int) ([f0, f1, f2, f3 ++ [10]].map B) b) (match payOf s with | none => (([] : List Pay), (0 : Int), (2 : Int)) | some p => run text (d : Int) (m : Int) c (acc ++ [p]) (pre ++ s ++ [10]) r) := by
                intro b hb
                refine Ev.step (fun _ => rfl) ?_
                simp only [spec_ReadBank.j5]
                have hw3 : wrap64 (((B (f3 ++ [10])).size : Int) - 1) = ((f3.length : Nat) : Int) := by
                  rw [B_size, List.length_append, wrap_id (by simp only [List.length_cons, List.length_nil]; omega) (by simp only [List.length_cons, List.length_nil]; omega)]
                  simp only [List.length_cons, List.length_nil]; omega
                have hx3 : (B (f3 ++ [10])).extract 0 (((f3.length : Nat) : Int)).toNat = B f3 := by
                  rw [B_ext, Int.toNat_natCast]; simp
                rw [g1, g2, g3, hw3, hx3]
                obtain ⟨v, hv, hv2⟩ := specM f3
                refine ev_neg (by simp [hb]) (ev_pos (by simp) (ev_pos (by simp) (ev_pos (by simp) (ev_pos (by omega) (ev_pos (by rw [B_size]; simp only [List.length_append, List.length_cons, List.length_nil]; omega) (ev_bind hv (ev_bind (specPay f1 f2 v (by omega) (by omega)) ?_)))))))
                by_cases hok : acctP f1 ∧ nameP (B f2) ∧ 1 ≤ v ∧ v ≤ 100000000000
                · rcases hv2 with ⟨n, hn, o2⟩ | ⟨o1, o2⟩
                  · subst o2
                    have hpay : isPay s ⟨B f1, B f2, (n : Int)⟩ := ⟨f1, f2, n, ⟨hok.1, hok.2.1, hn.1⟩, by rw [hsp, c0, ← hn.2], rfl⟩
                    have hpl : s = lineP f1 f2 n := by
                      have := sp_jo 124 s []
                      rw [hsp, List.nil_append] at this
                      rw [← this, c0, hn.2]
                      unfold lineP
                      simp [jo, jo.jt]
                    rw [payOf_some hpay]
                    refine ev_pos (by rw [decide_eq_true_eq]; exact hok) (ev_pos (by omega) ?_)
                    have hlen2 : (acc ++ [(⟨B f1, B f2, (n : Int)⟩ : Pay)]).length = acc.length + 1 := by simp
                    have ih' := ih (acc ++ [(⟨B f1, B f2, (n : Int)⟩ : Pay)]) (pre ++ s ++ [10]) r (by rw [he, hre]; simp) (by rw [body_app, line_pay, hpre, hpl]; simp) (by rw [hlen2]; omega) (by
                        intro p hp2
                        rcases List.mem_append.1 hp2 with hp2 | hp2
                        · exact hp p hp2
                        · rw [List.mem_singleton.1 hp2]; exact ⟨f1, f2, n, ⟨hok.1, hok.2.1, hn.1⟩, rfl⟩) (by rw [hlen2]; exact hdr) (by rw [hlen2]; omega) hl4 hly
                    rw [hlen2] at ih'
                    have hw5 : wrap64 (((acc.length + 1 : Nat) : Int) + 1) = ((acc.length + 1 + 1 : Nat) : Int) := by rw [wrap_id (by omega) (by omega)]; omega
                    rw [hw5]
                    exact ih'
                  · exfalso; omega
                · have hn : payOf s = none := nop (fun h => hok ⟨h.2.1, h.2.2.1, by
                    obtain ⟨n, hn⟩ := h.2.2.2
                    rcases hv2 with ⟨n', hn', o2⟩ | ⟨o1, o2⟩
                    · rw [o2]; have := hn'.1; omega
                    · exact absurd ⟨n, hn⟩ o2⟩)
                  rw [hn]
                  exact ev_neg (by rw [decide_eq_true_eq]; exact hok) (ev_some _)
              exact hj _ rfl
            · refine ev_neg (fun g => c0 (by rw [B_list] at g; exact g)) (five _ _ rfl ?_)
              rw [nop (fun h => c0 h.1)]
          · refine ev_neg (by rw [List.length_map, sp_nl4]; omega) (five _ _ rfl ?_)
            rw [payOf_none (fun p hp => ?_)]
            obtain ⟨ta, ref, n, q1, q2, _⟩ := hp
            rw [q2] at hlen
            exact hlen rfl
      have htk : (nmb ls (acc.length + 1)).take 2 = [84, 124] ↔ rest.take 2 = [84, 124] := by
        cases hf : fl1 rest with
        | none =>
          rw [hf] at hfl
          simp only [List.nil_append, h0, if_false] at hfl
          rw [hfl] at hcons
          have : nmb ls (acc.length + 1) = rest := by injection hcons
          rw [this]
        | some sr =>
          obtain ⟨s, r⟩ := sr
          rw [hf] at hfl
          simp only [List.nil_append] at hfl
          rw [hfl] at hcons
          have e1 : nmb ls (acc.length + 1) = s ++ [10] := by injection hcons
          have hre := fl1_some rest s r hf
          rw [e1, hre]
          match s with
          | [] => simp
          | [a] => simp
          | a :: b :: s => simp
      have hstop : stopP rest ↔ rest.take 2 = [84, 124] := ⟨fun h => h.elim (fun h => absurd h h0) (fun h => h), fun h => Or.inr h⟩
      have hb4 : ∀ b : Bool, b = decide (stopP rest) → Ev (fun k => spec_ReadBank.j4 k (B text) [] (ls.map B) (d : Int) (cnt : Int) (m : Int) acc ((acc.length + 1 : Nat) : Int) b) (if stopP rest then (([] : List Pay), (0 : Int), (3 : Int)) else match fl1 rest with | none => (([] : List Pay), (0 : Int), (2 : Int)) | some (s, r) => match payOf s with | none => (([] : List Pay), (0 : Int), (2 : Int)) | some p => run text (d : Int) (m : Int) c (acc ++ [p]) (pre ++ s ++ [10]) r) := by
        intro b hb
        by_cases hs : stopP rest
        · rw [if_pos hs]
          have : b = true := by rw [hb]; simpa using hs
          subst this
          exact s_j4t
        · rw [if_neg hs]
          exact hj4 _ b rfl (by rw [hb]; simpa using hs) hs (fun _ => trivial)
      by_cases h1 : ((B (nmb ls (acc.length + 1))).size : Int) > 1
      · refine ev_pos h1 (ev_pos (by omega) (ev_pos (by omega) (hb4 _ ?_)))
        rw [stop_take, decide_eq_decide, hstop, htk]
      · refine ev_neg h1 (hb4 _ ?_)
        symm; rw [decide_eq_false_iff_not, hstop, ← htk]
        intro h
        have := congrArg List.length h
        rw [List.length_take] at this
        rw [B_size] at h1
        simp only [List.length_cons, List.length_nil] at this
        omega
theorem s_j0t {text : List UInt8} {ls : List ByteArray} : Ev (fun k => spec_ReadBank.j0 k (B text) [] ls true) (([] : List Pay), 0, 1) := by
  refine Ev.step (fun _ => rfl) ?_
  simp only [spec_ReadBank.j0]
  exact ev_pos trivial (ev_some _)
theorem s_j1t {text : List UInt8} {ls f : List ByteArray} : Ev (fun k => spec_ReadBank.j1 k (B text) [] ls f true) (([] : List Pay), 0, 1) := by
  refine Ev.step (fun _ => rfl) ?_
  simp only [spec_ReadBank.j1]
  exact ev_pos trivial (ev_some _)
theorem s_j2t {text : List UInt8} {ls : List ByteArray} {a b c : Int} : Ev (fun k => spec_ReadBank.j2 k (B text) [] ls a b c true) (([] : List Pay), 0, 1) := by
  refine Ev.step (fun _ => rfl) ?_
  simp only [spec_ReadBank.j2]
  exact ev_pos trivial (ev_some _)
theorem specBank (text : List UInt8) (hl : text.length ≤ 1100000) : Ev (fun k => spec_ReadBank.f k (B text)) (if text.length ≤ 20000 then headR text else ([], 0, 1)) := by
  unfold spec_ReadBank.f
  refine ev_bind0 rfl (ev_bind (specLines text hl) ?_)
  by_cases h20 : text.length ≤ 20000
  · rw [if_pos h20]
    refine ev_neg (by rw [B_size]; omega) ?_
    obtain ⟨bl1, bl2⟩ := lns_bd text []
    simp only [List.length_nil, Nat.zero_add] at bl1 bl2
    by_cases h0 : text = []
    · have e0 : headR text = ([], 0, 1) := headR_none (by rw [h0]; rfl)
      rw [e0]
      have e1 : lns [] text = [] := (lns_len text).2 h0
      rw [e1]
      exact s_j0t
    · have hne : lns [] text ≠ [] := fun h => h0 ((lns_len text).1 h)
      have hlp : 1 ≤ (lns [] text).length := by
        have := List.length_pos_iff.2 hne
        omega
      have hj0 : ∀ b : Bool, b = false → Ev (fun k => spec_ReadBank.j0 k (B text) [] ((lns [] text).map B) b) (headR text) := by
        intro b hb
        refine Ev.step (fun _ => rfl) ?_
        simp only [spec_ReadBank.j0]
        have hrd := nmb_rd (lns [] text) 0 hlp
        have hcons : nmb (lns [] text) 0 :: (lns [] text).drop 1 = lns [] text := by
          cases hx : lns [] text with
          | nil => exact absurd hx hne
          | cons a b => rfl
        have hlz := bl2 (nmb (lns [] text) 0) (mem_rd hlp)
        have hrd' : rdOf ByteArray.empty ((lns [] text).map B) 0 = B (nmb (lns [] text) 0) := hrd
        rw [hrd']
        generalize hL : nmb (lns [] text) 0 = L at *
        refine ev_neg (by simp [hb]) (ev_pos (by rw [List.length_map]; omega) (ev_bind (split1 L (by omega) 124) ?_))
        have hw : wrap64 (((B L).size : Int) - 1) = ((L.length - 1 : Nat) : Int) := by
          rw [B_size, wrap_id (by omega) (by omega)]; omega
        rw [hw]
        have one : ∀ (f : List ByteArray) (b : Bool), b = true → headR text = ([], 0, 1) → Ev (fun k => spec_ReadBank.j1 k (B text) [] ((lns [] text).map B) f b) (headR text) := by
          intro f b hb hn
          subst hb
          rw [hn]
          exact s_j1t
        have hfl := lns_fl text []
        cases hf : fl1 text with
        | none =>
          have hbad := headR_none hf
          rw [hf] at hfl
          simp only [List.nil_append, h0, if_false] at hfl
          rw [hfl] at hcons
          have hLr : L = text := by injection hcons
          obtain ⟨y, hy1, hy2⟩ := lastno hf h0
          rw [← hLr] at hy1
          by_cases hlen : (sp 124 [] L).length = 4
          · refine ev_pos (by rw [List.length_map]; omega) (ev_pos (by rw [List.length_map]; omega) ?_)
            by_cases c0 : (rdOf ByteArray.empty ((sp 124 [] L).map B) 0).toList = [72]
            · refine ev_pos c0 (ev_pos (by omega) (ev_pos (by rw [B_size]; omega) (one _ _ ?_ hbad)))
              rw [hy1, bne_iff_ne]
              omega
            · exact ev_neg c0 (one _ _ rfl hbad)
          · exact ev_neg (by rw [List.length_map]; omega) (one _ _ rfl hbad)
        | some sr =>
          obtain ⟨s, r⟩ := sr
          rw [hf] at hfl
          simp only [List.nil_append] at hfl
          rw [hfl] at hcons
          have hLs : L = s ++ [10] := by injection hcons
          have hdr : (lns [] text).drop 1 = lns [] r := by rw [hfl]; rfl
          have hre := fl1_some text s r hf
          have hLl : L.length - 1 = s.length := by rw [hLs]; simp
          subst hLs
          rw [hLl, last10]
          by_cases hlen : (sp 124 [] s).length = 4
          · obtain ⟨f0, f1, f2, f3, hsp⟩ := sp4 hlen
            have hsp2 := sp_nl_of hsp
            have hsz := sp_sz s
            rw [hsp] at hsz
            rw [hsp2]
            simp only [List.length_append, List.length_cons, List.length_nil] at hlz
            have z1 := hsz f1 (by simp)
            have z2 := hsz f2 (by simp)
            have z3 := hsz f3 (by simp)
            have g0 : rdOf ByteArray.empty ([f0, f1, f2, f3 ++ [10]].map B) 0 = B f0 := rfl
            have g1 : rdOf ByteArray.empty ([f0, f1, f2, f3 ++ [10]].map B) 1 = B f1 := rfl
            have g2 : rdOf ByteArray.empty ([f0, f1, f2, f3 ++ [10]].map B) 2 = B f2 := rfl
            have g3 : rdOf ByteArray.empty ([f0, f1, f2, f3 ++ [10]].map B) 3 = B (f3 ++ [10]) := rfl
            rw [g0]
            refine ev_pos rfl (ev_pos (by simp) ?_)
            have nop : (¬ (f0 = [72] ∧ ∃ d c m : Nat, f1 = dec d ∧ f2 = dec c ∧ f3 = mon m ∧ d ≤ 40000 ∧ (1 ≤ c ∧ c ≤ 100) ∧ (1 ≤ m ∧ m ≤ 100000000000))) → headR text = ([], 0, 1) := fun h => headR_no hf (fun ⟨d, c, m, q, q1⟩ => by
              rw [hsp] at q
              injection q with e0 q
              injection q with e1 q
              injection q with e2 q
              injection q with e3 _
              exact h ⟨e0, d, c, m, e1, e2, e3, q1⟩)
            by_cases c0 : f0 = [72]
            · refine ev_pos (by rw [c0, B_list]) (ev_pos (by omega) (ev_pos (by rw [B_size]; simp only [List.length_append, List.length_cons, List.length_nil]; omega) ?_))
              have hj1 : ∀ b : Bool, b = false → Ev (fun k => spec_ReadBank.j1 k (B text) [] ((lns [] text).map B) ([f0, f1, f2, f3 ++ [10]].map B) b) (headR text) := by
                intro b hb
                refine Ev.step (fun _ => rfl) ?_
                simp only [spec_ReadBank.j1]
                have hw3 : wrap64 (((B (f3 ++ [10])).size : Int) - 1) = ((f3.length : Nat) : Int) := by
                  rw [B_size, List.length_append, wrap_id (by simp only [List.length_cons, List.length_nil]; omega) (by simp only [List.length_cons, List.length_nil]; omega)]
                  simp only [List.length_cons, List.length_nil]; omega
                have hx3 : (B (f3 ++ [10])).extract 0 (((f3.length : Nat) : Int)).toNat = B f3 := by
                  rw [B_ext, Int.toNat_natCast]; simp
                rw [g1, g2, g3, hw3, hx3]
                obtain ⟨v1, hv1, w1⟩ := specW f1
                obtain ⟨v2, hv2, w2⟩ := specW f2
                obtain ⟨v3, hv3, w3⟩ := specM f3
                refine ev_neg (by simp [hb]) (ev_pos (by simp) (ev_bind hv1 (ev_pos (by simp) (ev_bind hv2 (ev_pos (by simp) (ev_pos (by omega) (ev_pos (by rw [B_size]; simp only [List.length_append, List.length_cons, List.length_nil]; omega) (ev_bind hv3 (ev_bind0 (l2Day_eq _) ?_)))))))))
                have bad : headR text = ([], 0, 1) → ∀ (b : Bool), b = true → Ev (fun k => spec_ReadBank.j2 k (B text) [] ((lns [] text).map B) v1 v2 v3 b) (headR text) := fun hn b hb => by
                  subst hb
                  rw [hn]; exact s_j2t
                by_cases c1 : 0 ≤ v1 ∧ v1 ≤ 40000
                · refine ev_pos (by rw [decide_eq_true_eq]; exact c1) (ev_bind0 (l1In_eq _ _ _) ?_)
                  rcases w1 with ⟨d, hd, p1⟩ | ⟨p1, _⟩
                  · by_cases c2 : 1 ≤ v2 ∧ v2 ≤ 100
                    · refine ev_pos (by rw [decide_eq_true_eq]; exact c2) ?_
                      rcases w2 with ⟨c, hc, p2⟩ | ⟨p2, _⟩
                      · rcases w3 with ⟨m, hm, p3⟩ | ⟨p3, p4⟩
                        · subst p1 p2 p3
                          have hm1 := hm.1
                          have hy := headR_yes hf (d := d) (c := c) (m := m) ⟨by rw [hsp, c0, hd.2, hc.2, hm.2], by omega, by omega, hm.1⟩
                          have hj2 : ∀ b : Bool, b = false → Ev (fun k => spec_ReadBank.j2 k (B text) [] ((lns [] text).map B) (d : Int) (c : Int) (m : Int) b) (headR text) := by
                            intro b hb
                            refine Ev.step (fun _ => rfl) ?_
                            simp only [spec_ReadBank.j2]
                            refine ev_neg (by simp [hb]) ?_
                            rw [hy]
                            have hpre : s ++ [10] = hdP d c m := by
                              have := sp_jo 124 s []
                              rw [hsp, List.nil_append] at this
                              rw [← this, c0, hd.2, hc.2, hm.2]
                              unfold hdP
                              simp [jo, jo.jt]
                            exact specRun text h20 d c m (by omega) (by omega) hm.1 (lns [] text) c [] (s ++ [10]) r (by rw [hre]; simp) (by rw [hpre]; simp [bodyP]) (by simp) (fun p hp => by cases hp) hdr hlp (by omega) (fun y hy => by have := (bl2 y hy).2; omega)
                          refine hj2 _ ?_
                          rw [beq_eq_false_iff_ne]; omega
                        · refine bad (nop ?_) _ (by rw [p3]; rfl)
                          rintro ⟨_, d', c', m', q1, q2, q3, q4, q5, q6⟩
                          exact p4 ⟨m', q6, q3⟩
                      · exfalso; omega
                    · refine ev_neg (by rw [decide_eq_true_eq]; exact c2) (bad (nop ?_) _ rfl)
                      rintro ⟨_, d', c', m', q1, q2, q3, q4, q5, q6⟩
                      rcases w2 with ⟨c, hc, p2⟩ | ⟨_, p2⟩
                      · have := dec_inj (hc.2.symm.trans q2)
                        omega
                      · exact p2 ⟨c', by omega, q2⟩
                  · exfalso; omega
                · refine ev_neg (by rw [decide_eq_true_eq]; exact c1) (bad (nop ?_) _ rfl)
                  rintro ⟨_, d', c', m', q1, q2, q3, q4, q5, q6⟩
                  rcases w1 with ⟨d, hd, p1⟩ | ⟨_, p1⟩
                  · have := dec_inj (hd.2.symm.trans q1)
                    omega
                  · exact p1 ⟨d', by omega, q1⟩
              exact hj1 _ rfl
            · exact ev_neg (fun g => c0 (by rw [B_list] at g; exact g)) (one _ _ rfl (nop (fun h => c0 h.1)))
          · refine ev_neg (by rw [List.length_map, sp_nl4]; omega) (one _ _ rfl (headR_no hf ?_))
            rintro ⟨d, c, m, q, _⟩
            rw [q] at hlen
            exact hlen rfl
      refine hj0 _ ?_
      rw [List.length_map, beq_eq_false_iff_ne]
      omega
  · rw [if_neg h20]
    exact ev_pos (by rw [B_size]; omega) s_j0t
end Go.Proofs.Ytmpknbdbichdiaa.PFnExactReadBank
