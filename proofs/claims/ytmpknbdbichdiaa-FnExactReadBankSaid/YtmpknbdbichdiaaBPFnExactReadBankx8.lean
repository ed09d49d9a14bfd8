import Derived.Test.YtmpknbdbichdiaaBPFnExactReadBankx0
import Derived.Test.YtmpknbdbichdiaaBPFnExactReadBankx1
import Derived.Test.YtmpknbdbichdiaaBPFnExactReadBankx2
import Derived.Test.YtmpknbdbichdiaaBPFnExactReadBankx6
import Derived.Test.YtmpknbdbichdiaaBPFnExactReadBankx7
import Derived.Test.YtmpknbdbichdiaaBSlimWords
namespace Go.Proofs.Ytmpknbdbichdiaa.PFnExactReadBank
open Go.Proofs.Ytmpknbdbichdiaa.SlimWords
open Go.RowKit Go.Proofs.YtmpknbdbichdiaaW.PrintWords Go.Proofs.YtmpknbdbichdiaaW.PrintLast Go.Proofs.YtmpknbdbichdiaaW.PrintMore Go.Proofs.Ytmpknbdbichdiaa.MapWords Go.Proofs.Ytmpknbdbichdiaa.IterWords Go.Proofs.Ytmpknbdbichdiaa.MarkWords
attribute [local go_sem] max2_int min2_int max_two min_two max_three min_three max_four min_four
set_option linter.unusedVariables false
set_option linter.unusedSimpArgs false
private abbrev I' := true
private abbrev O' := false
private abbrev L0' : Array Bool := #[O',O',O',O',O',O',O',O',O',O',O',O',O',O',O',O',O',O',O',O',O',O',O',O',O']
private abbrev L1' : Array Bool := #[I',O',O',O',O',O',O',O',O',O',O',O',O',O',O',O',O',O',O',O',O',O',O',O',O']
private abbrev L2' : Array Bool := #[I',I',O',O',O',O',O',O',O',O',O',O',O',O',O',O',O',O',O',O',O',O',O',O',O']
private abbrev L3' : Array Bool := #[I',I',I',O',O',O',O',O',O',O',O',O',O',O',O',O',O',O',O',O',O',O',O',O',O']
private abbrev L4' : Array Bool := #[I',I',I',I',O',O',O',O',O',O',O',O',O',O',O',O',O',O',O',O',O',O',O',O',O']
private abbrev L5' : Array Bool := #[I',I',I',I',I',O',O',O',O',O',O',O',O',O',O',O',O',O',O',O',O',O',O',O',O']
private abbrev L6' : Array Bool := #[I',I',I',I',I',I',O',O',O',O',O',O',O',O',O',O',O',O',O',O',O',O',O',O',O']
private abbrev L7' : Array Bool := #[I',I',I',I',I',I',O',O',O',I',O',O',O',O',O',O',O',O',O',O',O',O',O',O',O']
private abbrev L8' : Array Bool := #[I',I',I',I',I',I',O',O',O',I',I',O',O',O',O',O',O',O',O',O',O',O',O',O',O']
private abbrev L9' : Array Bool := #[I',I',I',I',I',I',O',O',O',I',I',I',O',O',O',O',O',O',O',O',O',O',O',O',O']
private abbrev L10' : Array Bool := #[I',I',I',I',I',I',O',O',O',I',I',I',I',O',O',O',O',O',O',O',O',O',O',O',O']
private abbrev L11' : Array Bool := #[I',I',I',I',I',I',O',O',O',I',I',I',I',O',O',O',I',O',O',O',O',O',O',O',O']
private abbrev L12' : Array Bool := #[I',I',I',I',I',I',O',O',O',I',I',I',I',O',O',O',I',I',O',O',O',O',O',O',O']
private abbrev L13' : Array Bool := #[I',I',I',I',I',I',O',O',O',I',I',I',I',O',O',O',I',I',I',O',O',O',O',O',O']
private abbrev L14' : Array Bool := #[I',I',I',I',I',I',O',O',O',I',I',I',I',O',O',O',I',I',I',I',O',O',O',O',O']
private abbrev L15' : Array Bool := #[I',I',I',I',I',I',I',O',O',I',I',I',I',O',O',O',I',I',I',I',O',O',O',O',O']
private abbrev L16' : Array Bool := #[I',I',I',I',I',I',I',I',O',I',I',I',I',O',O',O',I',I',I',I',O',O',O',O',O']
private abbrev L17' : Array Bool := #[I',I',I',I',I',I',I',I',I',I',I',I',I',O',O',O',I',I',I',I',O',O',O',O',O']
private abbrev L18' : Array Bool := #[I',I',I',I',I',I',I',I',I',I',I',I',I',I',O',O',I',I',I',I',O',O',O',O',O']
private abbrev L19' : Array Bool := #[I',I',I',I',I',I',I',I',I',I',I',I',I',I',I',O',I',I',I',I',O',O',O',O',O']
private abbrev L20' : Array Bool := #[I',I',I',I',I',I',I',I',I',I',I',I',I',I',I',I',I',I',I',I',O',O',O',O',O']
private abbrev L21' : Array Bool := #[I',I',I',I',I',I',I',I',I',I',I',I',I',I',I',I',I',I',I',I',I',O',O',O',O']
private abbrev L22' : Array Bool := #[I',I',I',I',I',I',I',I',I',I',I',I',I',I',I',I',I',I',I',I',I',I',O',O',O']
private abbrev L23' : Array Bool := #[I',I',I',I',I',I',I',I',I',I',I',I',I',I',I',I',I',I',I',I',I',I',I',O',O']
private abbrev L24' : Array Bool := #[I',I',I',I',I',I',I',I',I',I',I',I',I',I',I',I',I',I',I',I',I',I',I',I',O']
private abbrev L25' : Array Bool := #[I',I',I',I',I',I',I',I',I',I',I',I',I',I',I',I',I',I',I',I',I',I',I',I',I']
mutual
def spec_WriteBank.j0 : Nat → Int → List (S174) → Bool → Option (ByteArray)
  | 0, _, _, _ => none
  | k + 1, x0, x1, x16 => if x16 = true then (some (⟨#[]⟩ : ByteArray)) else (spec_WriteBank.l0 k x0 x1 0)
def spec_WriteBank.l0 : Nat → Int → List (S174) → Int → Option (ByteArray)
  | 0, _, _, _ => none
  | k + 1, x0, x1, x5 => if x5 < (x1.length : Int) then (if 0 ≤ x5 then ((spec_l14Pay.f k ((rd_T174 x1 x5).f0) ((rd_T174 x1 x5).f1) ((rd_T174 x1 x5).f2)).bind fun t156 => (if t156 = true then (spec_WriteBank.l0 k x0 x1 (wrap64 (x5 + 1))) else (some (⟨#[]⟩ : ByteArray)))) else (none)) else ((spec_l14Sum.f k x1).bind fun t157 => ((spec_l1Amount.f t157).bind fun t158 => (if t158 = true then ((spec_l1Text.f k x0).bind fun t159 => (if 2 + t159.size ≤ 9223372036854775807 then (if ((⟨#[72, 124]⟩ : ByteArray) ++ t159).size + 1 ≤ 9223372036854775807 then ((spec_l1Text.f k (x1.length : Int)).bind fun t160 => (if (((⟨#[72, 124]⟩ : ByteArray) ++ t159) ++ (⟨#[124]⟩ : ByteArray)).size + t160.size ≤ 9223372036854775807 then (if ((((⟨#[72, 124]⟩ : ByteArray) ++ t159) ++ (⟨#[124]⟩ : ByteArray)) ++ t160).size + 1 ≤ 9223372036854775807 then ((spec_l14Sum.f k x1).bind fun t161 => ((spec_ShowMoney.f k t161 2).bind fun t162 => (if (((((⟨#[72, 124]⟩ : ByteArray) ++ t159) ++ (⟨#[124]⟩ : ByteArray)) ++ t160) ++ (⟨#[124]⟩ : ByteArray)).size + t162.size ≤ 9223372036854775807 then (if ((((((⟨#[72, 124]⟩ : ByteArray) ++ t159) ++ (⟨#[124]⟩ : ByteArray)) ++ t160) ++ (⟨#[124]⟩ : ByteArray)) ++ t162).size + 1 ≤ 9223372036854775807 then (spec_WriteBank.l1 k x1 (((((((⟨#[72, 124]⟩ : ByteArray) ++ t159) ++ (⟨#[124]⟩ : ByteArray)) ++ t160) ++ (⟨#[124]⟩ : ByteArray)) ++ t162) ++ (⟨#[10]⟩ : ByteArray)) 0) else (none)) else (none)))) else (none)) else (none))) else (none)) else (none))) else (some (⟨#[]⟩ : ByteArray)))))
def spec_WriteBank.l1 : Nat → List (S174) → ByteArray → Int → Option (ByteArray)
  | 0, _, _, _ => none
  | k + 1, x1, x6, x7 => if x7 < (x1.length : Int) then (if x6.size + 2 ≤ 9223372036854775807 then (if 0 ≤ x7 then (if (x6 ++ (⟨#[80, 124]⟩ : ByteArray)).size + ((rd_T174 x1 x7).f0).size ≤ 9223372036854775807 then (if ((x6 ++ (⟨#[80, 124]⟩ : ByteArray)) ++ ((rd_T174 x1 x7).f0)).size + 1 ≤ 9223372036854775807 then (if (((x6 ++ (⟨#[80, 124]⟩ : ByteArray)) ++ ((rd_T174 x1 x7).f0)) ++ (⟨#[124]⟩ : ByteArray)).size + ((rd_T174 x1 x7).f1).size ≤ 9223372036854775807 then (if ((((x6 ++ (⟨#[80, 124]⟩ : ByteArray)) ++ ((rd_T174 x1 x7).f0)) ++ (⟨#[124]⟩ : ByteArray)) ++ ((rd_T174 x1 x7).f1)).size + 1 ≤ 9223372036854775807 then ((spec_ShowMoney.f k ((rd_T174 x1 x7).f2) 2).bind fun t166 => (if (((((x6 ++ (⟨#[80, 124]⟩ : ByteArray)) ++ ((rd_T174 x1 x7).f0)) ++ (⟨#[124]⟩ : ByteArray)) ++ ((rd_T174 x1 x7).f1)) ++ (⟨#[124]⟩ : ByteArray)).size + t166.size ≤ 9223372036854775807 then (if ((((((x6 ++ (⟨#[80, 124]⟩ : ByteArray)) ++ ((rd_T174 x1 x7).f0)) ++ (⟨#[124]⟩ : ByteArray)) ++ ((rd_T174 x1 x7).f1)) ++ (⟨#[124]⟩ : ByteArray)) ++ t166).size + 1 ≤ 9223372036854775807 then (spec_WriteBank.l1 k x1 (((((((x6 ++ (⟨#[80, 124]⟩ : ByteArray)) ++ ((rd_T174 x1 x7).f0)) ++ (⟨#[124]⟩ : ByteArray)) ++ ((rd_T174 x1 x7).f1)) ++ (⟨#[124]⟩ : ByteArray)) ++ t166) ++ (⟨#[10]⟩ : ByteArray)) (wrap64 (x7 + 1))) else (none)) else (none))) else (none)) else (none)) else (none)) else (none)) else (none)) else (none)) else (if x6.size + 2 ≤ 9223372036854775807 then ((spec_l14Check.f k x6).bind fun t167 => ((spec_l1Text.f k t167).bind fun t168 => (if (x6 ++ (⟨#[84, 124]⟩ : ByteArray)).size + t168.size ≤ 9223372036854775807 then (if ((x6 ++ (⟨#[84, 124]⟩ : ByteArray)) ++ t168).size + 1 ≤ 9223372036854775807 then (if ((((x6 ++ (⟨#[84, 124]⟩ : ByteArray)) ++ t168) ++ (⟨#[10]⟩ : ByteArray)).size : Int) > 20000 then (some (⟨#[]⟩ : ByteArray)) else (some (((x6 ++ (⟨#[84, 124]⟩ : ByteArray)) ++ t168) ++ (⟨#[10]⟩ : ByteArray)))) else (none)) else (none)))) else (none))
end
def spec_WriteBank.f (k : Nat) (a0 : Int) (l1 : List (S174)) : Option (ByteArray) := (spec_l2Day.f a0).bind fun t153 => (if t153 = true then ((spec_l1In.f (l1.length : Int) 1 100).bind fun t154 => (spec_WriteBank.j0 k a0 l1 (!t154))) else (spec_WriteBank.j0 k a0 l1 true))
theorem spec_WriteBank.mono_l : ∀ k, (∀ y0 y1 y2, LeO (spec_WriteBank.j0 k y0 y1 y2) (spec_WriteBank.j0 (k + 1) y0 y1 y2)) ∧ (∀ y0 y1 y2, LeO (spec_WriteBank.l0 k y0 y1 y2) (spec_WriteBank.l0 (k + 1) y0 y1 y2)) ∧ (∀ y0 y1 y2, LeO (spec_WriteBank.l1 k y0 y1 y2) (spec_WriteBank.l1 (k + 1) y0 y1 y2))
  | 0 => ⟨fun _ _ _ r h => by simp [spec_WriteBank.j0] at h, fun _ _ _ r h => by simp [spec_WriteBank.l0] at h, fun _ _ _ r h => by simp [spec_WriteBank.l1] at h⟩
  | k + 1 => by
    obtain ⟨ih0, ih1, ih2⟩ := spec_WriteBank.mono_l k
    refine ⟨?_, ?_, ?_⟩
    · intro y0 y1 y2
      unfold spec_WriteBank.j0
      repeat' first
      | (with_reducible exact ih0 _ _ _)
      | (with_reducible exact ih1 _ _ _)
      | (with_reducible exact ih2 _ _ _)
      | (with_reducible exact spec_ShowMoney.mono _ _ _)
      | (with_reducible exact spec_l14Check.mono _ _)
      | (with_reducible exact spec_l14Pay.mono _ _ _ _)
      | (with_reducible exact spec_l14Sum.mono _ _)
      | (with_reducible exact spec_l1Text.mono _ _)
      | (with_reducible exact LeO.refl _)
      | (with_reducible exact LeO.none _)
      | (with_reducible refine LeO.ite ?_ ?_)
      | (with_reducible refine LeO.bind ?_ (fun _ => ?_))
      | exact ih0 _ _ _
      | exact ih1 _ _ _
      | exact ih2 _ _ _
      | exact spec_ShowMoney.mono _ _ _
      | exact spec_l14Check.mono _ _
      | exact spec_l14Pay.mono _ _ _ _
      | exact spec_l14Sum.mono _ _
      | exact spec_l1Text.mono _ _
      | exact LeO.none _
      | refine LeO.ite ?_ ?_
      | refine LeO.bind ?_ (fun _ => ?_)
    · intro y0 y1 y2
      unfold spec_WriteBank.l0
      repeat' first
      | (with_reducible exact ih0 _ _ _)
      | (with_reducible exact ih1 _ _ _)
      | (with_reducible exact ih2 _ _ _)
      | (with_reducible exact spec_ShowMoney.mono _ _ _)
      | (with_reducible exact spec_l14Check.mono _ _)
      | (with_reducible exact spec_l14Pay.mono _ _ _ _)
      | (with_reducible exact spec_l14Sum.mono _ _)
      | (with_reducible exact spec_l1Text.mono _ _)
      | (with_reducible exact LeO.refl _)
      | (with_reducible exact LeO.none _)
      | (with_reducible refine LeO.ite ?_ ?_)
      | (with_reducible refine LeO.bind ?_ (fun _ => ?_))
      | exact ih0 _ _ _
      | exact ih1 _ _ _
      | exact ih2 _ _ _
      | exact spec_ShowMoney.mono _ _ _
      | exact spec_l14Check.mono _ _
      | exact spec_l14Pay.mono _ _ _ _
      | exact spec_l14Sum.mono _ _
      | exact spec_l1Text.mono _ _
      | exact LeO.none _
      | refine LeO.ite ?_ ?_
      | refine LeO.bind ?_ (fun _ => ?_)
    · intro y0 y1 y2
      unfold spec_WriteBank.l1
      repeat' first
      | (with_reducible exact ih0 _ _ _)
      | (with_reducible exact ih1 _ _ _)
      | (with_reducible exact ih2 _ _ _)
      | (with_reducible exact spec_ShowMoney.mono _ _ _)
      | (with_reducible exact spec_l14Check.mono _ _)
      | (with_reducible exact spec_l14Pay.mono _ _ _ _)
      | (with_reducible exact spec_l14Sum.mono _ _)
      | (with_reducible exact spec_l1Text.mono _ _)
      | (with_reducible exact LeO.refl _)
      | (with_reducible exact LeO.none _)
      | (with_reducible refine LeO.ite ?_ ?_)
      | (with_reducible refine LeO.bind ?_ (fun _ => ?_))
      | exact ih0 _ _ _
      | exact ih1 _ _ _
      | exact ih2 _ _ _
      | exact spec_ShowMoney.mono _ _ _
      | exact spec_l14Check.mono _ _
      | exact spec_l14Pay.mono _ _ _ _
      | exact spec_l14Sum.mono _ _
      | exact spec_l1Text.mono _ _
      | exact LeO.none _
      | refine LeO.ite ?_ ?_
      | refine LeO.bind ?_ (fun _ => ?_)
theorem spec_WriteBank.mono : ∀ a0 a1 k, LeO (spec_WriteBank.f k a0 a1) (spec_WriteBank.f (k + 1) a0 a1) := by
 intro a0 a1 k
 obtain ⟨ih0, ih1, ih2⟩ := spec_WriteBank.mono_l k
 unfold spec_WriteBank.f
 repeat' first
     | (with_reducible exact ih0 _ _ _)
     | (with_reducible exact ih1 _ _ _)
     | (with_reducible exact ih2 _ _ _)
     | (with_reducible exact spec_ShowMoney.mono _ _ _)
     | (with_reducible exact spec_l14Check.mono _ _)
     | (with_reducible exact spec_l14Pay.mono _ _ _ _)
     | (with_reducible exact spec_l14Sum.mono _ _)
     | (with_reducible exact spec_l1Text.mono _ _)
     | (with_reducible exact LeO.refl _)
     | (with_reducible exact LeO.none _)
     | (with_reducible refine LeO.ite ?_ ?_)
     | (with_reducible refine LeO.bind ?_ (fun _ => ?_))
     | exact ih0 _ _ _
     | exact ih1 _ _ _
     | exact ih2 _ _ _
     | exact spec_ShowMoney.mono _ _ _
     | exact spec_l14Check.mono _ _
     | exact spec_l14Pay.mono _ _ _ _
     | exact spec_l14Sum.mono _ _
     | exact spec_l1Text.mono _ _
     | exact LeO.none _
     | refine LeO.ite ?_ ?_
     | refine LeO.bind ?_ (fun _ => ?_)
def spec_WriteBank.T14 : Bool × List (List Nat × List Nat) := (true, [([], []), ([0], [0]), ([], []), ([], []), ([2, 3], [2, 3]), ([4], [4]), ([5], [5]), ([1, 6], [1, 6]), ([7], [7]), ([], []), ([], []), ([9, 10], [9, 10]), ([11], [11]), ([12], [12]), ([8, 13], [8, 13]), ([14], [14]), ([], []), ([], []), ([16, 17], [16, 17]), ([18], [18]), ([19], [19]), ([20], [20]), ([15, 21], [15, 21]), ([22], [22]), ([23, 21, 0, 1, 2, 3, 4, 5, 6, 7, 8, 9, 10, 11, 12, 13, 14, 15, 16, 17, 18, 19, 20, 21, 22, 23], [0, 23])])
def spec_WriteBank.B14 : List Nat := [0, 1, 0, 0, 12, 28, 60, 127, 255, 0, 0, 1536, 3584, 7680, 16383, 32767, 0, 0, 196608, 458752, 983040, 2031616, 4194303, 8388607, 16777215]
theorem spec_WriteBank.tab14 : rtab .any (opsOf Try.f124 14) = spec_WriteBank.T14 := by kernel_rfl
theorem spec_WriteBank.bits14 : waitsOk spec_WriteBank.T14.2 spec_WriteBank.B14 = true := by kernel_rfl
set_option maxHeartbeats 8000000 in
set_option maxRecDepth 100000 in
theorem spec_WriteBank.calls (k : Nat) (a0 : Int) (A1 : Option Addr) (c1 : Nat) (l1 : List (S174)) (r : ByteArray) (w : World) (hr1 : Kd.C k174 w A1 l1.length l1) (hc1 : l1.length ≤ c1) (h : spec_WriteBank.f k a0 l1 = some r) :
    Calls Try.prog 124 #[.int .i64 a0, .slice A1 l1.length c1] w fun e w' => e = .returned (.string r) ∧ Below w.heap.size w w' := by
 have hu174 := Try.underlying174
 have HR1 := Aside0.mk hr1
 have HC1 := Aside0.mk hc1
 clear hr1 hc1
 have HB := aZ (Below.refl w.heap.size w)
 have H : ((spec_l2Day.f a0).bind fun t153 => (if t153 = true then ((spec_l1In.f (l1.length : Int) 1 100).bind fun t154 => (spec_WriteBank.j0 k a0 l1 (!t154))) else (spec_WriteBank.j0 k a0 l1 true))) = some r := h
 clear h
 have HC3 := Aside0.mk H
 clear H
 go_enter Try.func124, Try.ntmps124
 go_upto_region 1 with (fail)
 go_cut [16] (fun v16 wc => ∃ (kq : Nat) (x16_2 : Bool), v16 = .bool x16_2 ∧ Aside0 (spec_WriteBank.j0 kq a0 l1 x16_2 = some r) ∧ Aside0 (kq ≤ k) ∧ Aside0 (Below w.heap.size w wc))
 case first =>
  have H := HC3.out
  clear HC3
  replace H := Option.bind_eq_some_iff.mp H
  obtain ⟨t153, A40, H⟩ := H
  replace H : (if t153 = true then ((spec_l1In.f (l1.length : Int) 1 100).bind fun t154 => (spec_WriteBank.j0 k a0 l1 (!t154))) else (spec_WriteBank.j0 k a0 l1 true)) = some r := H
  have A4 := Aside0.mk A40
  clear A40
  by_cases c5 : t153 = true
  rotate_left
  ·replace c5 := Bool.eq_false_iff.mpr c5
   subst c5
   have H1 : (spec_WriteBank.j0 k a0 l1 true) = some r := by rw [if_neg (show ¬ (false = true) by decide)] at H; exact H
   clear H
   have H := H1
   clear H1
   have H' := Aside0.mk H
   clear H
   go_wp2_with (first | ((with_reducible refine gate_callee (f := 81) rfl ?_); refine goesL_ (some 9) rfl rfl Try.func81 kZ rfl #[.int .i64 a0] rfl tZA ?_; (with_reducible refine (spec_l2Day.calls a0 false _ A4.out).mono ?_); rintro e w' ⟨rfl, ⟨nd, rfl⟩⟩; refine ⟨_, rfl, ?_⟩))
   go_meet
   case rel => exact ⟨_, (true), tZB, H', ⟨by first | omega | exact Nat.le_refl _⟩, ⟨bZ⟩⟩
  subst c5
  have H1 : ((spec_l1In.f (l1.length : Int) 1 100).bind fun t154 => (spec_WriteBank.j0 k a0 l1 (!t154))) = some r := by rw [if_pos rfl] at H; exact H
  clear H
  have H := H1
  clear H1
  replace H := Option.bind_eq_some_iff.mp H
  obtain ⟨t154, A60, H⟩ := H
  replace H : (spec_WriteBank.j0 k a0 l1 (!t154)) = some r := H
  have A6 := Aside0.mk A60
  clear A60
  have H' := Aside0.mk H
  clear H
  go_wp2_with (first | ((with_reducible refine gate_callee (f := 81) rfl ?_); refine goesL_ (some 9) rfl rfl Try.func81 kZ rfl #[.int .i64 a0] rfl tZA ?_; (with_reducible refine (spec_l2Day.calls a0 true _ A4.out).mono ?_); rintro e w' ⟨rfl, ⟨nd, rfl⟩⟩; refine ⟨_, rfl, ?_⟩) | (go_at_call 67; (with_reducible refine (spec_l1In.calls (l1.length : Int) 1 100 t154 _ A6.out).mono ?_); rintro e w' ⟨rfl, ⟨nd, rfl⟩⟩))
  go_meet
  case rel => exact ⟨_, (!t154), tZB, H', ⟨by first | omega | exact Nat.le_refl _⟩, ⟨bZ⟩⟩
 case rest =>
  clear HC3
  try clear c1
  try clear p2
  try clear c5
  obtain ⟨kq, x16_2, rfl, HA, HJ2, HB⟩ := hcut
  cases kq with
  | zero => exact absurd HA.out (by simp [spec_WriteBank.j0])
  | succ kj2 =>
   have H := HA.out
   clear HA
   simp only [spec_WriteBank.j0] at H
   by_cases c7 : x16_2 = true
   ·subst c7
    have H1 : (some (⟨#[]⟩ : ByteArray)) = some r := by rw [if_pos rfl] at H; exact H
    clear H
    have H := H1
    clear H1
    obtain rfl := Option.some.inj H
    go_wp2
    go_ret
    exact ⟨tZC, bZ⟩
   replace c7 := Bool.eq_false_iff.mpr c7
   subst c7
   have H1 : (spec_WriteBank.l0 kj2 a0 l1 0) = some r := by rw [if_neg (show ¬ (false = true) by decide)] at H; exact H
   clear H
   have H := H1
   clear H1
   have H' := Aside0.mk H
   clear H
   go_wp2
   go_loopg [5] kj2 (fun kq v5 w' => ∃ (x5_2 : Int), v5 = .int .i64 x5_2 ∧ Aside0 (spec_WriteBank.l0 kq a0 l1 x5_2 = some r) ∧ Aside0 (kq ≤ kj2) ∧ Aside0 (Below w.heap.size w w'))
   case atStart => exact ⟨(0), tZB, H', ⟨Nat.le_refl _⟩, ⟨bZ⟩⟩
   case round =>
    clear H'
    try clear c1
    try clear p2
    try clear c5
    try clear c7
    try clear p2
    obtain ⟨x5_2, rfl, HA, HK2, HB⟩ := hrel
    cases gk with
    | zero => exact absurd HA.out (by simp [spec_WriteBank.l0])
    | succ k2 =>
     have H := HA.out
     clear HA
     simp only [spec_WriteBank.l0] at H
     by_cases c8 : x5_2 < (l1.length : Int)
     ·rw [if_pos c8] at H
      have c8b0 := decide_eq_true c8
      clear c8
      by_cases c9 : 0 ≤ x5_2
      rotate_left
      ·rw [if_neg c9] at H
       exact absurd H (by simp)
      rw [if_pos c9] at H
      have c9b0 := decide_eq_true c9
      clear c9
      replace H := Option.bind_eq_some_iff.mp H
      obtain ⟨t156, A100, H⟩ := H
      replace H : (if t156 = true then (spec_WriteBank.l0 k2 a0 l1 (wrap64 (x5_2 + 1))) else (some (⟨#[]⟩ : ByteArray))) = some r := H
      have A10 := Aside0.mk A100
      clear A100
      by_cases c11 : t156 = true
      rotate_left
      ·replace c11 := Bool.eq_false_iff.mpr c11
       subst c11
       have H1 : (some (⟨#[]⟩ : ByteArray)) = some r := by rw [if_neg (show ¬ (false = true) by decide)] at H; exact H
       clear H
       have H := H1
       clear H1
       obtain rfl := Option.some.inj H
       have p155 : 0 ≤ (x5_2 : Int) := of_decide_eq_true tZE
       have q155 : x5_2 < (l1.length : Int) := of_decide_eq_true tZE
       obtain ⟨ad155, e155, hx155_0, hx155_1, hx155_2⟩ := at_T174 HR1.out x5_2 p155 q155
       cases e155
       replace hx155_0 := cZ HB hx155_0
       replace hx155_1 := cZ HB hx155_1
       replace hx155_2 := cZ HB hx155_2
       replace p155 := eq_true p155
       replace q155 := eq_true q155
       go_wp2_with (first | ((with_reducible refine gate_callee (f := 122) rfl ?_); refine goesL_ (some 27) rfl rfl Try.func122 kZ rfl #[.agg #[.string ((rd_T174 l1 x5_2).f0), .string ((rd_T174 l1 x5_2).f1), .int .i64 ((rd_T174 l1 x5_2).f2)]] rfl tZA ?_; (with_reducible refine (spec_l14Pay.calls k2 ((rd_T174 l1 x5_2).f0) ((rd_T174 l1 x5_2).f1) ((rd_T174 l1 x5_2).f2) false _ A10.out).mono ?_); rintro e w13 ⟨rfl, hb⟩; refine ⟨_, rfl, ?_⟩; replace HB := aZ (below_step (lZB HB.out) hb); (try clear hb); (try clear hb2); (try clear hk); (try clear hi)))
       go_ret
       exact ⟨tZC, bZ⟩
      subst c11
      have H1 : (spec_WriteBank.l0 k2 a0 l1 (wrap64 (x5_2 + 1))) = some r := by rw [if_pos rfl] at H; exact H
      clear H
      have H := H1
      clear H1
      have H' := Aside0.mk H
      clear H
      have p155 : 0 ≤ (x5_2 : Int) := of_decide_eq_true tZE
      have q155 : x5_2 < (l1.length : Int) := of_decide_eq_true tZE
      obtain ⟨ad155, e155, hx155_0, hx155_1, hx155_2⟩ := at_T174 HR1.out x5_2 p155 q155
      cases e155
      replace hx155_0 := cZ HB hx155_0
      replace hx155_1 := cZ HB hx155_1
      replace hx155_2 := cZ HB hx155_2
      replace p155 := eq_true p155
      replace q155 := eq_true q155
      go_wp2_with (first | ((with_reducible refine gate_callee (f := 122) rfl ?_); refine goesL_ (some 27) rfl rfl Try.func122 kZ rfl #[.agg #[.string ((rd_T174 l1 x5_2).f0), .string ((rd_T174 l1 x5_2).f1), .int .i64 ((rd_T174 l1 x5_2).f2)]] rfl tZA ?_; (with_reducible refine (spec_l14Pay.calls k2 ((rd_T174 l1 x5_2).f0) ((rd_T174 l1 x5_2).f1) ((rd_T174 l1 x5_2).f2) true _ A10.out).mono ?_); rintro e w12 ⟨rfl, hb⟩; refine ⟨_, rfl, ?_⟩; replace HB := aZ (below_step (lZB HB.out) hb); (try clear hb); (try clear hb2); (try clear hk); (try clear hi)))
      go_roundg k2
      case measure => have := HJ2.out; have := HK2.out; omega
      case rel => exact ⟨(wrap64 (x5_2 + 1)), tZB, H', ⟨by have := HJ2.out; have := HK2.out; omega⟩, ⟨bZ⟩⟩
     rw [if_neg c8] at H
     have c8b0 := decide_eq_false c8
     clear c8
     replace H := Option.bind_eq_some_iff.mp H
     obtain ⟨t157, A140, H⟩ := H
     replace H : ((spec_l1Amount.f t157).bind fun t158 => (if t158 = true then ((spec_l1Text.f k2 a0).bind fun t159 => (if 2 + t159.size ≤ 9223372036854775807 then (if ((⟨#[72, 124]⟩ : ByteArray) ++ t159).size + 1 ≤ 9223372036854775807 then ((spec_l1Text.f k2 (l1.length : Int)).bind fun t160 => (if (((⟨#[72, 124]⟩ : ByteArray) ++ t159) ++ (⟨#[124]⟩ : ByteArray)).size + t160.size ≤ 9223372036854775807 then (if ((((⟨#[72, 124]⟩ : ByteArray) ++ t159) ++ (⟨#[124]⟩ : ByteArray)) ++ t160).size + 1 ≤ 9223372036854775807 then ((spec_l14Sum.f k2 l1).bind fun t161 => ((spec_ShowMoney.f k2 t161 2).bind fun t162 => (if (((((⟨#[72, 124]⟩ : ByteArray) ++ t159) ++ (⟨#[124]⟩ : ByteArray)) ++ t160) ++ (⟨#[124]⟩ : ByteArray)).size + t162.size ≤ 9223372036854775807 then (if ((((((⟨#[72, 124]⟩ : ByteArray) ++ t159) ++ (⟨#[124]⟩ : ByteArray)) ++ t160) ++ (⟨#[124]⟩ : ByteArray)) ++ t162).size + 1 ≤ 9223372036854775807 then (spec_WriteBank.l1 k2 l1 (((((((⟨#[72, 124]⟩ : ByteArray) ++ t159) ++ (⟨#[124]⟩ : ByteArray)) ++ t160) ++ (⟨#[124]⟩ : ByteArray)) ++ t162) ++ (⟨#[10]⟩ : ByteArray)) 0) else (none)) else (none)))) else (none)) else (none))) else (none)) else (none))) else (some (⟨#[]⟩ : ByteArray)))) = some r := H
     have A14 := Aside0.mk A140
     clear A140
     replace H := Option.bind_eq_some_iff.mp H
     obtain ⟨t158, A150, H⟩ := H
     replace H : (if t158 = true then ((spec_l1Text.f k2 a0).bind fun t159 => (if 2 + t159.size ≤ 9223372036854775807 then (if ((⟨#[72, 124]⟩ : ByteArray) ++ t159).size + 1 ≤ 9223372036854775807 then ((spec_l1Text.f k2 (l1.length : Int)).bind fun t160 => (if (((⟨#[72, 124]⟩ : ByteArray) ++ t159) ++ (⟨#[124]⟩ : ByteArray)).size + t160.size ≤ 9223372036854775807 then (if ((((⟨#[72, 124]⟩ : ByteArray) ++ t159) ++ (⟨#[124]⟩ : ByteArray)) ++ t160).size + 1 ≤ 9223372036854775807 then ((spec_l14Sum.f k2 l1).bind fun t161 => ((spec_ShowMoney.f k2 t161 2).bind fun t162 => (if (((((⟨#[72, 124]⟩ : ByteArray) ++ t159) ++ (⟨#[124]⟩ : ByteArray)) ++ t160) ++ (⟨#[124]⟩ : ByteArray)).size + t162.size ≤ 9223372036854775807 then (if ((((((⟨#[72, 124]⟩ : ByteArray) ++ t159) ++ (⟨#[124]⟩ : ByteArray)) ++ t160) ++ (⟨#[124]⟩ : ByteArray)) ++ t162).size + 1 ≤ 9223372036854775807 then (spec_WriteBank.l1 k2 l1 (((((((⟨#[72, 124]⟩ : ByteArray) ++ t159) ++ (⟨#[124]⟩ : ByteArray)) ++ t160) ++ (⟨#[124]⟩ : ByteArray)) ++ t162) ++ (⟨#[10]⟩ : ByteArray)) 0) else (none)) else (none)))) else (none)) else (none))) else (none)) else (none))) else (some (⟨#[]⟩ : ByteArray))) = some r := H
     have A15 := Aside0.mk A150
     clear A150
     by_cases c16 : t158 = true
     rotate_left
     ·replace c16 := Bool.eq_false_iff.mpr c16
      subst c16
      have H1 : (some (⟨#[]⟩ : ByteArray)) = some r := by rw [if_neg (show ¬ (false = true) by decide)] at H; exact H
      clear H
      have H := H1
      clear H1
      obtain rfl := Option.some.inj H
      go_wp2_with (first | ((with_reducible refine gate_callee (f := 123) rfl ?_); refine goesL_ (some 30) rfl rfl Try.func123 kZ rfl #[.slice A1 l1.length c1] rfl tZA ?_; (with_reducible refine (spec_l14Sum.calls k2 _ _ l1 t157 _ ?side1 ?side2 A14.out).mono ?_); (case side1 => repeat (first | exact (Kd.C_below HR1.out HB.out) | (with_reducible refine Kd.C_alloc ?_ _) | (with_reducible refine Kd.C_drewN ?_ _) | (with_reducible refine Kd.C_drew ?_))); (case side2 => exact HC1.out); rintro e w' ⟨rfl, ⟨nd, rfl⟩⟩; refine ⟨_, rfl, ?_⟩) | ((with_reducible refine gate_callee (f := 70) rfl ?_); refine goesL_ (some 31) rfl rfl Try.func70 kZ rfl #[.int .i64 t157] rfl tZA ?_; (with_reducible refine (spec_l1Amount.calls t157 false _ A15.out).mono ?_); rintro e w' ⟨rfl, ⟨nd, rfl⟩⟩; refine ⟨_, rfl, ?_⟩))
      go_ret
      exact ⟨tZC, bZ⟩
     subst c16
     have H1 : ((spec_l1Text.f k2 a0).bind fun t159 => (if 2 + t159.size ≤ 9223372036854775807 then (if ((⟨#[72, 124]⟩ : ByteArray) ++ t159).size + 1 ≤ 9223372036854775807 then ((spec_l1Text.f k2 (l1.length : Int)).bind fun t160 => (if (((⟨#[72, 124]⟩ : ByteArray) ++ t159) ++ (⟨#[124]⟩ : ByteArray)).size + t160.size ≤ 9223372036854775807 then (if ((((⟨#[72, 124]⟩ : ByteArray) ++ t159) ++ (⟨#[124]⟩ : ByteArray)) ++ t160).size + 1 ≤ 9223372036854775807 then ((spec_l14Sum.f k2 l1).bind fun t161 => ((spec_ShowMoney.f k2 t161 2).bind fun t162 => (if (((((⟨#[72, 124]⟩ : ByteArray) ++ t159) ++ (⟨#[124]⟩ : ByteArray)) ++ t160) ++ (⟨#[124]⟩ : ByteArray)).size + t162.size ≤ 9223372036854775807 then (if ((((((⟨#[72, 124]⟩ : ByteArray) ++ t159) ++ (⟨#[124]⟩ : ByteArray)) ++ t160) ++ (⟨#[124]⟩ : ByteArray)) ++ t162).size + 1 ≤ 9223372036854775807 then (spec_WriteBank.l1 k2 l1 (((((((⟨#[72, 124]⟩ : ByteArray) ++ t159) ++ (⟨#[124]⟩ : ByteArray)) ++ t160) ++ (⟨#[124]⟩ : ByteArray)) ++ t162) ++ (⟨#[10]⟩ : ByteArray)) 0) else (none)) else (none)))) else (none)) else (none))) else (none)) else (none))) = some r := by rw [if_pos rfl] at H; exact H
     clear H
     have H := H1
     clear H1
     replace H := Option.bind_eq_some_iff.mp H
     obtain ⟨t159, A170, H⟩ := H
     replace H : (if 2 + t159.size ≤ 9223372036854775807 then (if ((⟨#[72, 124]⟩ : ByteArray) ++ t159).size + 1 ≤ 9223372036854775807 then ((spec_l1Text.f k2 (l1.length : Int)).bind fun t160 => (if (((⟨#[72, 124]⟩ : ByteArray) ++ t159) ++ (⟨#[124]⟩ : ByteArray)).size + t160.size ≤ 9223372036854775807 then (if ((((⟨#[72, 124]⟩ : ByteArray) ++ t159) ++ (⟨#[124]⟩ : ByteArray)) ++ t160).size + 1 ≤ 9223372036854775807 then ((spec_l14Sum.f k2 l1).bind fun t161 => ((spec_ShowMoney.f k2 t161 2).bind fun t162 => (if (((((⟨#[72, 124]⟩ : ByteArray) ++ t159) ++ (⟨#[124]⟩ : ByteArray)) ++ t160) ++ (⟨#[124]⟩ : ByteArray)).size + t162.size ≤ 9223372036854775807 then (if ((((((⟨#[72, 124]⟩ : ByteArray) ++ t159) ++ (⟨#[124]⟩ : ByteArray)) ++ t160) ++ (⟨#[124]⟩ : ByteArray)) ++ t162).size + 1 ≤ 9223372036854775807 then (spec_WriteBank.l1 k2 l1 (((((((⟨#[72, 124]⟩ : ByteArray) ++ t159) ++ (⟨#[124]⟩ : ByteArray)) ++ t160) ++ (⟨#[124]⟩ : ByteArray)) ++ t162) ++ (⟨#[10]⟩ : ByteArray)) 0) else (none)) else (none)))) else (none)) else (none))) else (none)) else (none)) = some r := H
     have A17 := Aside0.mk A170
     clear A170
     by_cases c18 : 2 + t159.size ≤ 9223372036854775807
     rotate_left
     ·rw [if_neg c18] at H
      exact absurd H (by simp)
     rw [if_pos c18] at H
     have c18b0 := eq_true c18
     have c18b1 := decide_eq_true c18
     try have c18b2 := eq_false (Nat.not_lt.2 c18)
     by_cases c19 : ((⟨#[72, 124]⟩ : ByteArray) ++ t159).size + 1 ≤ 9223372036854775807
     rotate_left
     ·rw [if_neg c19] at H
      exact absurd H (by simp)
     rw [if_pos c19] at H
     have c19b0 := eq_true c19
     have c19b1 := decide_eq_true c19
     try have c19b2 := eq_false (Nat.not_lt.2 c19)
     try have c19b5 : (9223372036854775807 < 2 + t159.size + 1) = False := eq_false (by have h_ := c19; have e0_ : (⟨#[72, 124]⟩ : ByteArray).size = 2 := rfl; simp only [ByteArray.size_append, ByteArray.size_extract] at h_; omega)
     replace H := Option.bind_eq_some_iff.mp H
     obtain ⟨t160, A200, H⟩ := H
     replace H : (if (((⟨#[72, 124]⟩ : ByteArray) ++ t159) ++ (⟨#[124]⟩ : ByteArray)).size + t160.size ≤ 9223372036854775807 then (if ((((⟨#[72, 124]⟩ : ByteArray) ++ t159) ++ (⟨#[124]⟩ : ByteArray)) ++ t160).size + 1 ≤ 9223372036854775807 then ((spec_l14Sum.f k2 l1).bind fun t161 => ((spec_ShowMoney.f k2 t161 2).bind fun t162 => (if (((((⟨#[72, 124]⟩ : ByteArray) ++ t159) ++ (⟨#[124]⟩ : ByteArray)) ++ t160) ++ (⟨#[124]⟩ : ByteArray)).size + t162.size ≤ 9223372036854775807 then (if ((((((⟨#[72, 124]⟩ : ByteArray) ++ t159) ++ (⟨#[124]⟩ : ByteArray)) ++ t160) ++ (⟨#[124]⟩ : ByteArray)) ++ t162).size + 1 ≤ 9223372036854775807 then (spec_WriteBank.l1 k2 l1 (((((((⟨#[72, 124]⟩ : ByteArray) ++ t159) ++ (⟨#[124]⟩ : ByteArray)) ++ t160) ++ (⟨#[124]⟩ : ByteArray)) ++ t162) ++ (⟨#[10]⟩ : ByteArray)) 0) else (none)) else (none)))) else (none)) else (none)) = some r := H
     have A20 := Aside0.mk A200
     clear A200
     by_cases c21 : (((⟨#[72, 124]⟩ : ByteArray) ++ t159) ++ (⟨#[124]⟩ : ByteArray)).size + t160.size ≤ 9223372036854775807
     rotate_left
     ·rw [if_neg c21] at H
      exact absurd H (by simp)
     rw [if_pos c21] at H
     have c21b0 := eq_true c21
     have c21b1 := decide_eq_true c21
     try have c21b2 := eq_false (Nat.not_lt.2 c21)
     try have c21b5 : (9223372036854775807 < 2 + t159.size + 1 + t160.size) = False := eq_false (by have h_ := c21; have e0_ : (⟨#[72, 124]⟩ : ByteArray).size = 2 := rfl; have e1_ : (⟨#[124]⟩ : ByteArray).size = 1 := rfl; simp only [ByteArray.size_append, ByteArray.size_extract] at h_; omega)
     by_cases c22 : ((((⟨#[72, 124]⟩ : ByteArray) ++ t159) ++ (⟨#[124]⟩ : ByteArray)) ++ t160).size + 1 ≤ 9223372036854775807
     rotate_left
     ·rw [if_neg c22] at H
      exact absurd H (by simp)
     rw [if_pos c22] at H
     have c22b0 := eq_true c22
     have c22b1 := decide_eq_true c22
     try have c22b2 := eq_false (Nat.not_lt.2 c22)
     try have c22b5 : (9223372036854775807 < 2 + t159.size + 1 + t160.size + 1) = False := eq_false (by have h_ := c22; have e0_ : (⟨#[72, 124]⟩ : ByteArray).size = 2 := rfl; have e1_ : (⟨#[124]⟩ : ByteArray).size = 1 := rfl; simp only [ByteArray.size_append, ByteArray.size_extract] at h_; omega)
     replace H := Option.bind_eq_some_iff.mp H
     obtain ⟨t161, A230, H⟩ := H
     replace H : ((spec_ShowMoney.f k2 t161 2).bind fun t162 => (if (((((⟨#[72, 124]⟩ : ByteArray) ++ t159) ++ (⟨#[124]⟩ : ByteArray)) ++ t160) ++ (⟨#[124]⟩ : ByteArray)).size + t162.size ≤ 9223372036854775807 then (if ((((((⟨#[72, 124]⟩ : ByteArray) ++ t159) ++ (⟨#[124]⟩ : ByteArray)) ++ t160) ++ (⟨#[124]⟩ : ByteArray)) ++ t162).size + 1 ≤ 9223372036854775807 then (spec_WriteBank.l1 k2 l1 (((((((⟨#[72, 124]⟩ : ByteArray) ++ t159) ++ (⟨#[124]⟩ : ByteArray)) ++ t160) ++ (⟨#[124]⟩ : ByteArray)) ++ t162) ++ (⟨#[10]⟩ : ByteArray)) 0) else (none)) else (none))) = some r := H
     have A23 := Aside0.mk A230
     clear A230
     replace H := Option.bind_eq_some_iff.mp H
     obtain ⟨t162, A240, H⟩ := H
     replace H : (if (((((⟨#[72, 124]⟩ : ByteArray) ++ t159) ++ (⟨#[124]⟩ : ByteArray)) ++ t160) ++ (⟨#[124]⟩ : ByteArray)).size + t162.size ≤ 9223372036854775807 then (if ((((((⟨#[72, 124]⟩ : ByteArray) ++ t159) ++ (⟨#[124]⟩ : ByteArray)) ++ t160) ++ (⟨#[124]⟩ : ByteArray)) ++ t162).size + 1 ≤ 9223372036854775807 then (spec_WriteBank.l1 k2 l1 (((((((⟨#[72, 124]⟩ : ByteArray) ++ t159) ++ (⟨#[124]⟩ : ByteArray)) ++ t160) ++ (⟨#[124]⟩ : ByteArray)) ++ t162) ++ (⟨#[10]⟩ : ByteArray)) 0) else (none)) else (none)) = some r := H
     have A24 := Aside0.mk A240
     clear A240
     by_cases c25 : (((((⟨#[72, 124]⟩ : ByteArray) ++ t159) ++ (⟨#[124]⟩ : ByteArray)) ++ t160) ++ (⟨#[124]⟩ : ByteArray)).size + t162.size ≤ 9223372036854775807
     rotate_left
     ·rw [if_neg c25] at H
      exact absurd H (by simp)
     rw [if_pos c25] at H
     have c25b0 := eq_true c25
     have c25b1 := decide_eq_true c25
     try have c25b2 := eq_false (Nat.not_lt.2 c25)
     try have c25b5 : (9223372036854775807 < 2 + t159.size + 1 + t160.size + 1 + t162.size) = False := eq_false (by have h_ := c25; have e0_ : (⟨#[72, 124]⟩ : ByteArray).size = 2 := rfl; have e1_ : (⟨#[124]⟩ : ByteArray).size = 1 := rfl; have e2_ : (⟨#[124]⟩ : ByteArray).size = 1 := rfl; simp only [ByteArray.size_append, ByteArray.size_extract] at h_; omega)
     by_cases c26 : ((((((⟨#[72, 124]⟩ : ByteArray) ++ t159) ++ (⟨#[124]⟩ : ByteArray)) ++ t160) ++ (⟨#[124]⟩ : ByteArray)) ++ t162).size + 1 ≤ 9223372036854775807
     rotate_left
     ·rw [if_neg c26] at H
      exact absurd H (by simp)
     rw [if_pos c26] at H
     have c26b0 := eq_true c26
     have c26b1 := decide_eq_true c26
     try have c26b2 := eq_false (Nat.not_lt.2 c26)
     try have c26b5 : (9223372036854775807 < 2 + t159.size + 1 + t160.size + 1 + t162.size + 1) = False := eq_false (by have h_ := c26; have e0_ : (⟨#[72, 124]⟩ : ByteArray).size = 2 := rfl; have e1_ : (⟨#[124]⟩ : ByteArray).size = 1 := rfl; have e2_ : (⟨#[124]⟩ : ByteArray).size = 1 := rfl; simp only [ByteArray.size_append, ByteArray.size_extract] at h_; omega)
     have H' := Aside0.mk H
     clear H
     go_wp2_with (first | ((with_reducible refine gate_callee (f := 123) rfl ?_); refine goesL_ (some 30) rfl rfl Try.func123 kZ rfl #[.slice A1 l1.length c1] rfl tZA ?_; (with_reducible refine (spec_l14Sum.calls k2 _ _ l1 t157 _ ?side1 ?side2 A14.out).mono ?_); (case side1 => repeat (first | exact (Kd.C_below HR1.out HB.out) | (with_reducible refine Kd.C_alloc ?_ _) | (with_reducible refine Kd.C_drewN ?_ _) | (with_reducible refine Kd.C_drew ?_))); (case side2 => exact HC1.out); rintro e w' ⟨rfl, ⟨nd, rfl⟩⟩; refine ⟨_, rfl, ?_⟩) | ((with_reducible refine gate_callee (f := 70) rfl ?_); refine goesL_ (some 31) rfl rfl Try.func70 kZ rfl #[.int .i64 t157] rfl tZA ?_; (with_reducible refine (spec_l1Amount.calls t157 true _ A15.out).mono ?_); rintro e w' ⟨rfl, ⟨nd, rfl⟩⟩; refine ⟨_, rfl, ?_⟩) | ((with_reducible refine gate_callee (f := 177) rfl ?_); refine goesL_ (some 34) rfl rfl Try.func177 kZ rfl #[.int .i64 a0] rfl tZA ?_; (with_reducible refine (spec_l1Text.calls k2 a0 t159 _ A17.out).mono ?_); rintro e w27 ⟨rfl, hb⟩; refine ⟨_, rfl, ?_⟩; replace HB := aZ (below_step (lZB HB.out) hb); (try clear hb); (try clear hb2); (try clear hk); (try clear hi)) | ((with_reducible refine gate_callee (f := 177) rfl ?_); refine goesL_ (some 39) rfl rfl Try.func177 kZ rfl #[.int .i64 (l1.length : Int)] rfl tZA ?_; (with_reducible refine (spec_l1Text.calls k2 (l1.length : Int) t160 _ A20.out).mono ?_); rintro e w28 ⟨rfl, hb⟩; refine ⟨_, rfl, ?_⟩; replace HB := aZ (below_step (lZB HB.out) hb); (try clear hb); (try clear hb2); (try clear hk); (try clear hi)) | ((with_reducible refine gate_callee (f := 123) rfl ?_); refine goesL_ (some 43) rfl rfl Try.func123 kZ rfl #[.slice A1 l1.length c1] rfl tZA ?_; (with_reducible refine (spec_l14Sum.calls k2 _ _ l1 t161 _ ?side1 ?side2 A23.out).mono ?_); (case side1 => repeat (first | exact (Kd.C_below HR1.out HB.out) | (with_reducible refine Kd.C_alloc ?_ _) | (with_reducible refine Kd.C_drewN ?_ _) | (with_reducible refine Kd.C_drew ?_))); (case side2 => exact HC1.out); rintro e w' ⟨rfl, ⟨nd, rfl⟩⟩; refine ⟨_, rfl, ?_⟩) | ((with_reducible refine gate_callee (f := 155) rfl ?_); refine goesL_ (some 44) rfl rfl Try.func155 kZ rfl #[.int .i64 t161, .int .i64 2] rfl tZA ?_; (with_reducible refine (spec_ShowMoney.calls k2 t161 2 t162 _ A24.out).mono ?_); rintro e w29 ⟨rfl, hb⟩; refine ⟨_, rfl, ?_⟩; replace HB := aZ (below_step (lZB HB.out) hb); (try clear hb); (try clear hb2); (try clear hk); (try clear hi)))
     go_loopg [6, 7] k2 (fun kq v6 v7 w' => ∃ (x6_3 : ByteArray) (x7_3 : Int), v6 = .string x6_3 ∧ v7 = .int .i64 x7_3 ∧ Aside0 (spec_WriteBank.l1 kq l1 x6_3 x7_3 = some r) ∧ Aside0 (kq ≤ k2) ∧ Aside0 (Below w.heap.size w w'))
     case atStart => exact ⟨(((((((⟨#[72, 124]⟩ : ByteArray) ++ t159) ++ (⟨#[124]⟩ : ByteArray)) ++ t160) ++ (⟨#[124]⟩ : ByteArray)) ++ t162) ++ (⟨#[10]⟩ : ByteArray)), (0), tZB, tZB, H', ⟨Nat.le_refl _⟩, ⟨bZ⟩⟩
     case round =>
      clear H'
      try clear c1
      try clear p1
      try clear q1
      try clear hx1
      try clear c2
      try clear p2
      try clear c5
      try clear p6
      try clear c7
      try clear c8
      try clear c8b0
      try clear c9
      try clear c9b0
      try clear c11
      try clear c12
      try clear c15
      try clear p15
      try clear q15
      try clear hx15
      try clear c16
      try clear c17
      try clear c18
      try clear c18b0
      try clear c18b1
      try clear c18b2
      try clear c19
      try clear c19b0
      try clear c19b1
      try clear c19b2
      try clear c21
      try clear c21b0
      try clear c21b1
      try clear c21b2
      try clear c22
      try clear c22b0
      try clear c22b1
      try clear c22b2
      try clear c25
      try clear c25b0
      try clear c25b1
      try clear c25b2
      try clear c26
      try clear c26b0
      try clear c26b1
      try clear c26b2
      try clear hx155_0
      try clear hx155_1
      try clear hx155_2
      try clear p155
      try clear p2
      try clear q155
      obtain ⟨x6_3, x7_3, rfl, rfl, HA, HK3, HB⟩ := hrel
      cases gk with
      | zero => exact absurd HA.out (by simp [spec_WriteBank.l1])
      | succ k3 =>
       have H := HA.out
       clear HA
       simp only [spec_WriteBank.l1] at H
       by_cases c30 : x7_3 < (l1.length : Int)
       rotate_left
       ·rw [if_neg c30] at H
        have c30b0 := decide_eq_false c30
        clear c30
        by_cases c42 : x6_3.size + 2 ≤ 9223372036854775807
        rotate_left
        ·rw [if_neg c42] at H
         exact absurd H (by simp)
        rw [if_pos c42] at H
        have c42b0 := eq_true c42
        have c42b1 := decide_eq_true c42
        try have c42b2 := eq_false (Nat.not_lt.2 c42)
        replace H := Option.bind_eq_some_iff.mp H
        obtain ⟨t167, A430, H⟩ := H
        replace H : ((spec_l1Text.f k3 t167).bind fun t168 => (if (x6_3 ++ (⟨#[84, 124]⟩ : ByteArray)).size + t168.size ≤ 9223372036854775807 then (if ((x6_3 ++ (⟨#[84, 124]⟩ : ByteArray)) ++ t168).size + 1 ≤ 9223372036854775807 then (if ((((x6_3 ++ (⟨#[84, 124]⟩ : ByteArray)) ++ t168) ++ (⟨#[10]⟩ : ByteArray)).size : Int) > 20000 then (some (⟨#[]⟩ : ByteArray)) else (some (((x6_3 ++ (⟨#[84, 124]⟩ : ByteArray)) ++ t168) ++ (⟨#[10]⟩ : ByteArray)))) else (none)) else (none))) = some r := H
        have A43 := Aside0.mk A430
        clear A430
        replace H := Option.bind_eq_some_iff.mp H
        obtain ⟨t168, A440, H⟩ := H
        replace H : (if (x6_3 ++ (⟨#[84, 124]⟩ : ByteArray)).size + t168.size ≤ 9223372036854775807 then (if ((x6_3 ++ (⟨#[84, 124]⟩ : ByteArray)) ++ t168).size + 1 ≤ 9223372036854775807 then (if ((((x6_3 ++ (⟨#[84, 124]⟩ : ByteArray)) ++ t168) ++ (⟨#[10]⟩ : ByteArray)).size : Int) > 20000 then (some (⟨#[]⟩ : ByteArray)) else (some (((x6_3 ++ (⟨#[84, 124]⟩ : ByteArray)) ++ t168) ++ (⟨#[10]⟩ : ByteArray)))) else (none)) else (none)) = some r := H
        have A44 := Aside0.mk A440
        clear A440
        by_cases c45 : (x6_3 ++ (⟨#[84, 124]⟩ : ByteArray)).size + t168.size ≤ 9223372036854775807
        rotate_left
        ·rw [if_neg c45] at H
         exact absurd H (by simp)
        rw [if_pos c45] at H
        have c45b0 := eq_true c45
        have c45b1 := decide_eq_true c45
        try have c45b2 := eq_false (Nat.not_lt.2 c45)
        try have c45b5 : (9223372036854775807 < x6_3.size + 2 + t168.size) = False := eq_false (by have h_ := c45; have e0_ : (⟨#[84, 124]⟩ : ByteArray).size = 2 := rfl; simp only [ByteArray.size_append, ByteArray.size_extract] at h_; omega)
        by_cases c46 : ((x6_3 ++ (⟨#[84, 124]⟩ : ByteArray)) ++ t168).size + 1 ≤ 9223372036854775807
        rotate_left
        ·rw [if_neg c46] at H
         exact absurd H (by simp)
        rw [if_pos c46] at H
        have c46b0 := eq_true c46
        have c46b1 := decide_eq_true c46
        try have c46b2 := eq_false (Nat.not_lt.2 c46)
        try have c46b5 : (9223372036854775807 < x6_3.size + 2 + t168.size + 1) = False := eq_false (by have h_ := c46; have e0_ : (⟨#[84, 124]⟩ : ByteArray).size = 2 := rfl; simp only [ByteArray.size_append, ByteArray.size_extract] at h_; omega)
        by_cases c47 : ((((x6_3 ++ (⟨#[84, 124]⟩ : ByteArray)) ++ t168) ++ (⟨#[10]⟩ : ByteArray)).size : Int) > 20000
        ·rw [if_pos c47] at H
         (try (have c47b7 : decide (20000 < x6_3.size + 2 + t168.size + 1) = true := decide_eq_true (by have h_ := c47; have e0_ : (⟨#[84, 124]⟩ : ByteArray).size = 2 := rfl; have e1_ : (⟨#[10]⟩ : ByteArray).size = 1 := rfl; simp only [ByteArray.size_append, ByteArray.size_extract] at h_; omega)))
         (try (have c47b8 : decide (20000 < (x6_3.size : Int) + 2 + (t168.size : Int) + 1) = true := decide_eq_true (by have h_ := c47; have e0_ : (⟨#[84, 124]⟩ : ByteArray).size = 2 := rfl; have e1_ : (⟨#[10]⟩ : ByteArray).size = 1 := rfl; simp only [ByteArray.size_append, ByteArray.size_extract] at h_; omega)))
         have c47b0 : decide (20000 < ((((x6_3 ++ (⟨#[84, 124]⟩ : ByteArray)) ++ t168) ++ (⟨#[10]⟩ : ByteArray)).size : Int)) = true := decide_eq_true c47
         have c47b1 : decide (20000 < (((x6_3 ++ (⟨#[84, 124]⟩ : ByteArray)) ++ t168) ++ (⟨#[10]⟩ : ByteArray)).size) = true := decide_eq_true (by omega)
         clear c47
         obtain rfl := Option.some.inj H
         go_wp2_with (first | ((with_reducible refine gate_callee (f := 178) rfl ?_); refine goesL_ (some 80) rfl rfl Try.func178 kZ rfl #[.string x6_3] rfl tZA ?_; (with_reducible refine (spec_l14Check.calls k3 x6_3 t167 _ A43.out).mono ?_); rintro e w' ⟨rfl, ⟨nd, rfl⟩⟩; refine ⟨_, rfl, ?_⟩) | ((with_reducible refine gate_callee (f := 177) rfl ?_); refine goesL_ (some 81) rfl rfl Try.func177 kZ rfl #[.int .i64 t167] rfl tZA ?_; (with_reducible refine (spec_l1Text.calls k3 t167 t168 _ A44.out).mono ?_); rintro e w48 ⟨rfl, hb⟩; refine ⟨_, rfl, ?_⟩; replace HB := aZ (below_step (lZB HB.out) hb); (try clear hb); (try clear hb2); (try clear hk); (try clear hi)))
         go_ret
         exact ⟨tZC, bZ⟩
        rw [if_neg c47] at H
        (try (have c47b7 : decide (20000 < x6_3.size + 2 + t168.size + 1) = false := decide_eq_false (by have h_ := c47; have e0_ : (⟨#[84, 124]⟩ : ByteArray).size = 2 := rfl; have e1_ : (⟨#[10]⟩ : ByteArray).size = 1 := rfl; simp only [ByteArray.size_append, ByteArray.size_extract] at h_; omega)))
        (try (have c47b8 : decide (20000 < (x6_3.size : Int) + 2 + (t168.size : Int) + 1) = false := decide_eq_false (by have h_ := c47; have e0_ : (⟨#[84, 124]⟩ : ByteArray).size = 2 := rfl; have e1_ : (⟨#[10]⟩ : ByteArray).size = 1 := rfl; simp only [ByteArray.size_append, ByteArray.size_extract] at h_; omega)))
        have c47b0 : decide (20000 < ((((x6_3 ++ (⟨#[84, 124]⟩ : ByteArray)) ++ t168) ++ (⟨#[10]⟩ : ByteArray)).size : Int)) = false := decide_eq_false c47
        have c47b1 : decide (20000 < (((x6_3 ++ (⟨#[84, 124]⟩ : ByteArray)) ++ t168) ++ (⟨#[10]⟩ : ByteArray)).size) = false := decide_eq_false (by omega)
        clear c47
        obtain rfl := Option.some.inj H
        go_wp2_with (first | ((with_reducible refine gate_callee (f := 178) rfl ?_); refine goesL_ (some 80) rfl rfl Try.func178 kZ rfl #[.string x6_3] rfl tZA ?_; (with_reducible refine (spec_l14Check.calls k3 x6_3 t167 _ A43.out).mono ?_); rintro e w' ⟨rfl, ⟨nd, rfl⟩⟩; refine ⟨_, rfl, ?_⟩) | ((with_reducible refine gate_callee (f := 177) rfl ?_); refine goesL_ (some 81) rfl rfl Try.func177 kZ rfl #[.int .i64 t167] rfl tZA ?_; (with_reducible refine (spec_l1Text.calls k3 t167 t168 _ A44.out).mono ?_); rintro e w49 ⟨rfl, hb⟩; refine ⟨_, rfl, ?_⟩; replace HB := aZ (below_step (lZB HB.out) hb); (try clear hb); (try clear hb2); (try clear hk); (try clear hi)))
        go_ret
        exact ⟨tZC, bZ⟩
       rw [if_pos c30] at H
       have c30b0 := decide_eq_true c30
       clear c30
       by_cases c31 : x6_3.size + 2 ≤ 9223372036854775807
       rotate_left
       ·rw [if_neg c31] at H
        exact absurd H (by simp)
       rw [if_pos c31] at H
       have c31b0 := eq_true c31
       have c31b1 := decide_eq_true c31
       try have c31b2 := eq_false (Nat.not_lt.2 c31)
       by_cases c32 : 0 ≤ x7_3
       rotate_left
       ·rw [if_neg c32] at H
        exact absurd H (by simp)
       rw [if_pos c32] at H
       have c32b0 := decide_eq_true c32
       clear c32
       by_cases c33 : (x6_3 ++ (⟨#[80, 124]⟩ : ByteArray)).size + ((rd_T174 l1 x7_3).f0).size ≤ 9223372036854775807
       rotate_left
       ·rw [if_neg c33] at H
        exact absurd H (by simp)
       rw [if_pos c33] at H
       have c33b0 := eq_true c33
       have c33b1 := decide_eq_true c33
       try have c33b2 := eq_false (Nat.not_lt.2 c33)
       try have c33b5 : (9223372036854775807 < x6_3.size + 2 + ((rd_T174 l1 x7_3).f0).size) = False := eq_false (by have h_ := c33; have e0_ : (⟨#[80, 124]⟩ : ByteArray).size = 2 := rfl; simp only [ByteArray.size_append, ByteArray.size_extract] at h_; omega)
       by_cases c34 : ((x6_3 ++ (⟨#[80, 124]⟩ : ByteArray)) ++ ((rd_T174 l1 x7_3).f0)).size + 1 ≤ 9223372036854775807
       rotate_left
       ·rw [if_neg c34] at H
        exact absurd H (by simp)
       rw [if_pos c34] at H
       have c34b0 := eq_true c34
       have c34b1 := decide_eq_true c34
       try have c34b2 := eq_false (Nat.not_lt.2 c34)
       try have c34b5 : (9223372036854775807 < x6_3.size + 2 + ((rd_T174 l1 x7_3).f0).size + 1) = False := eq_false (by have h_ := c34; have e0_ : (⟨#[80, 124]⟩ : ByteArray).size = 2 := rfl; simp only [ByteArray.size_append, ByteArray.size_extract] at h_; omega)
       by_cases c35 : (((x6_3 ++ (⟨#[80, 124]⟩ : ByteArray)) ++ ((rd_T174 l1 x7_3).f0)) ++ (⟨#[124]⟩ : ByteArray)).size + ((rd_T174 l1 x7_3).f1).size ≤ 9223372036854775807
       rotate_left
       ·rw [if_neg c35] at H
        exact absurd H (by simp)
       rw [if_pos c35] at H
       have c35b0 := eq_true c35
       have c35b1 := decide_eq_true c35
       try have c35b2 := eq_false (Nat.not_lt.2 c35)
       try have c35b5 : (9223372036854775807 < x6_3.size + 2 + ((rd_T174 l1 x7_3).f0).size + 1 + ((rd_T174 l1 x7_3).f1).size) = False := eq_false (by have h_ := c35; have e0_ : (⟨#[80, 124]⟩ : ByteArray).size = 2 := rfl; have e1_ : (⟨#[124]⟩ : ByteArray).size = 1 := rfl; simp only [ByteArray.size_append, ByteArray.size_extract] at h_; omega)
       by_cases c36 : ((((x6_3 ++ (⟨#[80, 124]⟩ : ByteArray)) ++ ((rd_T174 l1 x7_3).f0)) ++ (⟨#[124]⟩ : ByteArray)) ++ ((rd_T174 l1 x7_3).f1)).size + 1 ≤ 9223372036854775807
       rotate_left
       ·rw [if_neg c36] at H
        exact absurd H (by simp)
       rw [if_pos c36] at H
       have c36b0 := eq_true c36
       have c36b1 := decide_eq_true c36
       try have c36b2 := eq_false (Nat.not_lt.2 c36)
       try have c36b5 : (9223372036854775807 < x6_3.size + 2 + ((rd_T174 l1 x7_3).f0).size + 1 + ((rd_T174 l1 x7_3).f1).size + 1) = False := eq_false (by have h_ := c36; have e0_ : (⟨#[80, 124]⟩ : ByteArray).size = 2 := rfl; have e1_ : (⟨#[124]⟩ : ByteArray).size = 1 := rfl; simp only [ByteArray.size_append, ByteArray.size_extract] at h_; omega)
       replace H := Option.bind_eq_some_iff.mp H
       obtain ⟨t166, A370, H⟩ := H
       replace H : (if (((((x6_3 ++ (⟨#[80, 124]⟩ : ByteArray)) ++ ((rd_T174 l1 x7_3).f0)) ++ (⟨#[124]⟩ : ByteArray)) ++ ((rd_T174 l1 x7_3).f1)) ++ (⟨#[124]⟩ : ByteArray)).size + t166.size ≤ 9223372036854775807 then (if ((((((x6_3 ++ (⟨#[80, 124]⟩ : ByteArray)) ++ ((rd_T174 l1 x7_3).f0)) ++ (⟨#[124]⟩ : ByteArray)) ++ ((rd_T174 l1 x7_3).f1)) ++ (⟨#[124]⟩ : ByteArray)) ++ t166).size + 1 ≤ 9223372036854775807 then (spec_WriteBank.l1 k3 l1 (((((((x6_3 ++ (⟨#[80, 124]⟩ : ByteArray)) ++ ((rd_T174 l1 x7_3).f0)) ++ (⟨#[124]⟩ : ByteArray)) ++ ((rd_T174 l1 x7_3).f1)) ++ (⟨#[124]⟩ : ByteArray)) ++ t166) ++ (⟨#[10]⟩ : ByteArray)) (wrap64 (x7_3 + 1))) else (none)) else (none)) = some r := H
       have A37 := Aside0.mk A370
       clear A370
       by_cases c38 : (((((x6_3 ++ (⟨#[80, 124]⟩ : ByteArray)) ++ ((rd_T174 l1 x7_3).f0)) ++ (⟨#[124]⟩ : ByteArray)) ++ ((rd_T174 l1 x7_3).f1)) ++ (⟨#[124]⟩ : ByteArray)).size + t166.size ≤ 9223372036854775807
       rotate_left
       ·rw [if_neg c38] at H
        exact absurd H (by simp)
       rw [if_pos c38] at H
       have c38b0 := eq_true c38
       have c38b1 := decide_eq_true c38
       try have c38b2 := eq_false (Nat.not_lt.2 c38)
       try have c38b5 : (9223372036854775807 < x6_3.size + 2 + ((rd_T174 l1 x7_3).f0).size + 1 + ((rd_T174 l1 x7_3).f1).size + 1 + t166.size) = False := eq_false (by have h_ := c38; have e0_ : (⟨#[80, 124]⟩ : ByteArray).size = 2 := rfl; have e1_ : (⟨#[124]⟩ : ByteArray).size = 1 := rfl; have e2_ : (⟨#[124]⟩ : ByteArray).size = 1 := rfl; simp only [ByteArray.size_append, ByteArray.size_extract] at h_; omega)
       by_cases c39 : ((((((x6_3 ++ (⟨#[80, 124]⟩ : ByteArray)) ++ ((rd_T174 l1 x7_3).f0)) ++ (⟨#[124]⟩ : ByteArray)) ++ ((rd_T174 l1 x7_3).f1)) ++ (⟨#[124]⟩ : ByteArray)) ++ t166).size + 1 ≤ 9223372036854775807
       rotate_left
       ·rw [if_neg c39] at H
        exact absurd H (by simp)
       rw [if_pos c39] at H
       have c39b0 := eq_true c39
       have c39b1 := decide_eq_true c39
       try have c39b2 := eq_false (Nat.not_lt.2 c39)
       try have c39b5 : (9223372036854775807 < x6_3.size + 2 + ((rd_T174 l1 x7_3).f0).size + 1 + ((rd_T174 l1 x7_3).f1).size + 1 + t166.size + 1) = False := eq_false (by have h_ := c39; have e0_ : (⟨#[80, 124]⟩ : ByteArray).size = 2 := rfl; have e1_ : (⟨#[124]⟩ : ByteArray).size = 1 := rfl; have e2_ : (⟨#[124]⟩ : ByteArray).size = 1 := rfl; simp only [ByteArray.size_append, ByteArray.size_extract] at h_; omega)
       have H' := Aside0.mk H
       clear H
       try go_wp2
       replace HB := aZ (below_drew1 HB.out)
       have p163 : 0 ≤ (x7_3 : Int) := of_decide_eq_true tZE
       have q163 : x7_3 < (l1.length : Int) := of_decide_eq_true tZE
       obtain ⟨ad163, e163, hx163_0, hx163_1, hx163_2⟩ := at_T174 HR1.out x7_3 p163 q163
       have hw163_2 := hx163_2
       have hw163_1 := hx163_1
       have hw163_0 := hx163_0
       cases e163
       replace hx163_0 := cZ HB hx163_0
       replace hx163_1 := cZ HB hx163_1
       replace hx163_2 := cZ HB hx163_2
       replace p163 := eq_true p163
       replace q163 := eq_true q163
       have p164 : 0 ≤ (x7_3 : Int) := of_decide_eq_true tZE
       have q164 : x7_3 < (l1.length : Int) := of_decide_eq_true tZE
       obtain ⟨ad164, e164, hx164_0, hx164_1, hx164_2⟩ := at_T174 HR1.out x7_3 p164 q164
       have hw164_2 := hx164_2
       have hw164_1 := hx164_1
       have hw164_0 := hx164_0
       obtain rfl : ad163 = ad164 := (by injection e164)
       replace hx164_0 := cZ HB hx164_0
       replace hx164_1 := cZ HB hx164_1
       replace hx164_2 := cZ HB hx164_2
       replace p164 := eq_true p164
       replace q164 := eq_true q164
       have p165 : 0 ≤ (x7_3 : Int) := of_decide_eq_true tZE
       have q165 : x7_3 < (l1.length : Int) := of_decide_eq_true tZE
       obtain ⟨ad165, e165, hx165_0, hx165_1, hx165_2⟩ := at_T174 HR1.out x7_3 p165 q165
       have hw165_2 := hx165_2
       have hw165_1 := hx165_1
       have hw165_0 := hx165_0
       obtain rfl : ad163 = ad165 := (by injection e165)
       replace hx165_0 := cZ HB hx165_0
       replace hx165_1 := cZ HB hx165_1
       replace hx165_2 := cZ HB hx165_2
       replace p165 := eq_true p165
       replace q165 := eq_true q165
       refine start_ (n := 25) (S := fun w' => w'.cell? (ad163.add ((x7_3).toNat * 3)) = some (.string ((rd_T174 l1 x7_3).f0)) ∧ w'.cell? ⟨(ad163.add ((x7_3).toNat * 3)).block, (ad163.add ((x7_3).toNat * 3)).off + 1, none⟩ = some (.string ((rd_T174 l1 x7_3).f1)) ∧ w'.cell? ⟨(ad163.add ((x7_3).toNat * 3)).block, (ad163.add ((x7_3).toNat * 3)).off + 2, none⟩ = some (.int .i64 ((rd_T174 l1 x7_3).f2)) ∧ w'.cell? (ad163.add ((x7_3).toNat * 3)) = some (.string ((rd_T174 l1 x7_3).f0)) ∧ w'.cell? ⟨(ad163.add ((x7_3).toNat * 3)).block, (ad163.add ((x7_3).toNat * 3)).off + 1, none⟩ = some (.string ((rd_T174 l1 x7_3).f1)) ∧ w'.cell? ⟨(ad163.add ((x7_3).toNat * 3)).block, (ad163.add ((x7_3).toNat * 3)).off + 2, none⟩ = some (.int .i64 ((rd_T174 l1 x7_3).f2)) ∧ w'.cell? (ad163.add ((x7_3).toNat * 3)) = some (.string ((rd_T174 l1 x7_3).f0)) ∧ w'.cell? ⟨(ad163.add ((x7_3).toNat * 3)).block, (ad163.add ((x7_3).toNat * 3)).off + 1, none⟩ = some (.string ((rd_T174 l1 x7_3).f1)) ∧ w'.cell? ⟨(ad163.add ((x7_3).toNat * 3)).block, (ad163.add ((x7_3).toNat * 3)).off + 2, none⟩ = some (.int .i64 ((rd_T174 l1 x7_3).f2))) (ds := []) L0' kZ rfl rfl ⟨((HB.out.cell (World.block_lt_of_cell? w _ hw163_0)).trans hw163_0), ((HB.out.cell (World.block_lt_of_cell? w _ hw163_1)).trans hw163_1), ((HB.out.cell (World.block_lt_of_cell? w _ hw163_2)).trans hw163_2), ((HB.out.cell (World.block_lt_of_cell? w _ hw164_0)).trans hw164_0), ((HB.out.cell (World.block_lt_of_cell? w _ hw164_1)).trans hw164_1), ((HB.out.cell (World.block_lt_of_cell? w _ hw164_2)).trans hw164_2), ((HB.out.cell (World.block_lt_of_cell? w _ hw165_0)).trans hw165_0), ((HB.out.cell (World.block_lt_of_cell? w _ hw165_1)).trans hw165_1), ((HB.out.cell (World.block_lt_of_cell? w _ hw165_2)).trans hw165_2)⟩ (fun hHeld => ?_); refine with_tabW spec_WriteBank.tab14 spec_WriteBank.bits14 (fun HT_ HW_ => ?_)
       generalize wr.drew = w40 at HB hx163_0 hx163_1 hx163_2 hx164_0 hx164_1 hx164_2 hx165_0 hx165_1 hx165_2 hHeld ⊢
       refine pure_ (i := 0) (N := some 53) (v := ?_) (a' := ?_) L1' rfl rfl (any_of HT_.out kZ) (fun _ _ _ h => h) (Or.inl ⟨by rfl, ?_⟩) ?_ ?_
       rotate_left
       ·intro w'
        go_simp
        with_reducible rfl
       rotate_left
       ·simp only [Act.put, sZ1, sZ2, sZ3, i64_w, i32_w]
        rfl
       refine pure_ (i := 1) (N := some 54) (v := ?_) (a' := ?_) L2' rfl rfl (any_of HT_.out kZ) (fun _ _ _ h => h) (Or.inl ⟨by rfl, ?_⟩) ?_ ?_
       rotate_left
       ·intro w'
        go_simp
        with_reducible rfl
       rotate_left
       ·simp only [Act.put, sZ1, sZ2, sZ3, i64_w, i32_w]
        rfl
       refine pure_ (i := 2) (N := some 55) (v := ?_) (a' := ?_) L3' rfl rfl (any_of HT_.out kZ) (fun _ _ _ h => h) (Or.inl ⟨by rfl, ?_⟩) ?_ ?_
       rotate_left
       ·intro w'
        go_simp
        with_reducible rfl
       rotate_left
       ·simp only [Act.put, sZ1, sZ2, sZ3, i64_w, i32_w]
        rfl
       refine pure_ (i := 3) (N := some 56) (v := ?_) (a' := ?_) L4' rfl rfl (any_of HT_.out kZ) (fun _ _ _ h => h) (Or.inl ⟨by rfl, ?_⟩) ?_ ?_
       rotate_left
       ·intro w'
        go_simp
        with_reducible rfl
       rotate_left
       ·simp only [Act.put, sZ1, sZ2, sZ3, i64_w, i32_w]
        rfl
       refine pure_ (i := 4) (N := some 57) (v := ?_) (a' := ?_) L5' rfl rfl (any_of HT_.out kZ) (fun _ _ _ h => h) (Or.inl ⟨by rfl, ?_⟩) ?_ ?_
       rotate_left
       ·intro w'
        go_simp
        with_reducible rfl
       rotate_left
       ·simp only [Act.put, sZ1, sZ2, sZ3, i64_w, i32_w]
        rfl
       refine pure_ (i := 5) (N := some 58) (v := ?_) (a' := ?_) L6' rfl rfl (any_of HT_.out kZ) (fun _ _ _ h => h) (Or.inl ⟨by rfl, ?_⟩) ?_ ?_
       rotate_left
       ·intro w'
        go_simp
        with_reducible rfl
       rotate_left
       ·simp only [Act.put, sZ1, sZ2, sZ3, i64_w, i32_w]
        rfl
       refine pure_ (i := 9) (N := some 62) (v := ?_) (a' := ?_) L7' rfl rfl (any_of HT_.out kZ) (fun _ _ _ h => h) (Or.inl ⟨by rfl, ?_⟩) ?_ ?_
       rotate_left
       ·intro w'
        go_simp
        with_reducible rfl
       rotate_left
       ·simp only [Act.put, sZ1, sZ2, sZ3, i64_w, i32_w]
        rfl
       refine pure_ (i := 10) (N := some 63) (v := ?_) (a' := ?_) L8' rfl rfl (any_of HT_.out kZ) (fun _ _ _ h => h) (Or.inl ⟨by rfl, ?_⟩) ?_ ?_
       rotate_left
       ·intro w'
        go_simp
        with_reducible rfl
       rotate_left
       ·simp only [Act.put, sZ1, sZ2, sZ3, i64_w, i32_w]
        rfl
       refine pure_ (i := 11) (N := some 64) (v := ?_) (a' := ?_) L9' rfl rfl (any_of HT_.out kZ) (fun _ _ _ h => h) (Or.inl ⟨by rfl, ?_⟩) ?_ ?_
       rotate_left
       ·intro w'
        go_simp
        with_reducible rfl
       rotate_left
       ·simp only [Act.put, sZ1, sZ2, sZ3, i64_w, i32_w]
        rfl
       refine pure_ (i := 12) (N := some 65) (v := ?_) (a' := ?_) L10' rfl rfl (any_of HT_.out kZ) (fun _ _ _ h => h) (Or.inl ⟨by rfl, ?_⟩) ?_ ?_
       rotate_left
       ·intro w'
        go_simp
        with_reducible rfl
       rotate_left
       ·simp only [Act.put, sZ1, sZ2, sZ3, i64_w, i32_w]
        rfl
       refine pure_ (i := 16) (N := some 69) (v := ?_) (a' := ?_) L11' rfl rfl (any_of HT_.out kZ) (fun _ _ _ h => h) (Or.inl ⟨by rfl, ?_⟩) ?_ ?_
       rotate_left
       ·intro w'
        go_simp
        with_reducible rfl
       rotate_left
       ·simp only [Act.put, sZ1, sZ2, sZ3, i64_w, i32_w]
        rfl
       refine pure_ (i := 17) (N := some 70) (v := ?_) (a' := ?_) L12' rfl rfl (any_of HT_.out kZ) (fun _ _ _ h => h) (Or.inl ⟨by rfl, ?_⟩) ?_ ?_
       rotate_left
       ·intro w'
        go_simp
        with_reducible rfl
       rotate_left
       ·simp only [Act.put, sZ1, sZ2, sZ3, i64_w, i32_w]
        rfl
       refine pure_ (i := 18) (N := some 71) (v := ?_) (a' := ?_) L13' rfl rfl (any_of HT_.out kZ) (fun _ _ _ h => h) (Or.inl ⟨by rfl, ?_⟩) ?_ ?_
       rotate_left
       ·intro w'
        go_simp
        with_reducible rfl
       rotate_left
       ·simp only [Act.put, sZ1, sZ2, sZ3, i64_w, i32_w]
        rfl
       refine pure_ (i := 19) (N := some 72) (v := ?_) (a' := ?_) L14' rfl rfl (any_of HT_.out kZ) (fun _ _ _ h => h) (Or.inl ⟨by rfl, ?_⟩) ?_ ?_
       rotate_left
       ·intro w'
        go_simp
        with_reducible rfl
       rotate_left
       ·simp only [Act.put, sZ1, sZ2, sZ3, i64_w, i32_w]
        rfl
       refine take_ (i := 6) (N := some 59) (v := ?_) (a' := ?_) L15' rfl rfl (take_ofW HT_.out HW_.out kZ) (fun _ _ _ h => h) (Or.inl ⟨by rfl, ?_⟩) hHeld ?_ ?_
       rotate_left
       ·rintro w' ⟨s0, s1, s2, s3, s4, s5, s6, s7, s8⟩
        go_simp
        with_reducible rfl
       rotate_left
       ·simp only [Act.put, sZ1, sZ2, sZ3, i64_w, i32_w]
        rfl
       refine pure_ (i := 7) (N := some 60) (v := ?_) (a' := ?_) L16' rfl rfl (any_of HT_.out kZ) (fun _ _ _ h => h) (Or.inl ⟨by rfl, ?_⟩) ?_ ?_
       rotate_left
       ·intro w'
        go_simp
        with_reducible rfl
       rotate_left
       ·simp only [Act.put, sZ1, sZ2, sZ3, i64_w, i32_w]
        rfl
       refine pure_ (i := 8) (N := some 61) (v := ?_) (a' := ?_) L17' rfl rfl (any_of HT_.out kZ) (fun _ _ _ h => h) (Or.inl ⟨by rfl, ?_⟩) ?_ ?_
       rotate_left
       ·intro w'
        go_simp
        with_reducible rfl
       rotate_left
       ·simp only [Act.put, sZ1, sZ2, sZ3, i64_w, i32_w]
        rfl
       refine take_ (i := 13) (N := some 66) (v := ?_) (a' := ?_) L18' rfl rfl (take_ofW HT_.out HW_.out kZ) (fun _ _ _ h => h) (Or.inl ⟨by rfl, ?_⟩) hHeld ?_ ?_
       rotate_left
       ·rintro w' ⟨s0, s1, s2, s3, s4, s5, s6, s7, s8⟩
        go_simp
        with_reducible rfl
       rotate_left
       ·simp only [Act.put, sZ1, sZ2, sZ3, i64_w, i32_w]
        rfl
       refine pure_ (i := 14) (N := some 67) (v := ?_) (a' := ?_) L19' rfl rfl (any_of HT_.out kZ) (fun _ _ _ h => h) (Or.inl ⟨by rfl, ?_⟩) ?_ ?_
       rotate_left
       ·intro w'
        go_simp
        with_reducible rfl
       rotate_left
       ·simp only [Act.put, sZ1, sZ2, sZ3, i64_w, i32_w]
        rfl
       refine pure_ (i := 15) (N := some 68) (v := ?_) (a' := ?_) L20' rfl rfl (any_of HT_.out kZ) (fun _ _ _ h => h) (Or.inl ⟨by rfl, ?_⟩) ?_ ?_
       rotate_left
       ·intro w'
        go_simp
        with_reducible rfl
       rotate_left
       ·simp only [Act.put, sZ1, sZ2, sZ3, i64_w, i32_w]
        rfl
       refine take_ (i := 20) (N := some 73) (v := ?_) (a' := ?_) L21' rfl rfl (take_ofW HT_.out HW_.out kZ) (fun _ _ _ h => h) (Or.inl ⟨by rfl, ?_⟩) hHeld ?_ ?_
       rotate_left
       ·rintro w' ⟨s0, s1, s2, s3, s4, s5, s6, s7, s8⟩
        go_simp
        with_reducible rfl
       rotate_left
       ·simp only [Act.put, sZ1, sZ2, sZ3, i64_w, i32_w]
        rfl
       refine one_ (i := 21) (N := some 74) L22' rfl rfl (one_of HT_.out kZ) (by decide) (fun K hK => ?_)
       refine goes_ Try.func155 kZ rfl #[.int .i64 ((rd_T174 l1 x7_3).f2), .int .i64 2] (by rfl) rfl rfl tZA ?_
       with_reducible refine (spec_ShowMoney.calls k3 ((rd_T174 l1 x7_3).f2) 2 t166 _ A37.out).mono ?_
       rintro e w41 ⟨rfl, hb⟩
       refine ⟨_, rfl, ?_⟩
       replace HB := aZ (below_step (lZB HB.out) hb)
       (try clear hb)
       (try clear hb2)
       (try clear hk)
       (try clear hi)
       refine hK.out _ _ ⟨((HB.out.cell (World.block_lt_of_cell? w _ hw163_0)).trans hw163_0), ((HB.out.cell (World.block_lt_of_cell? w _ hw163_1)).trans hw163_1), ((HB.out.cell (World.block_lt_of_cell? w _ hw163_2)).trans hw163_2), ((HB.out.cell (World.block_lt_of_cell? w _ hw164_0)).trans hw164_0), ((HB.out.cell (World.block_lt_of_cell? w _ hw164_1)).trans hw164_1), ((HB.out.cell (World.block_lt_of_cell? w _ hw164_2)).trans hw164_2), ((HB.out.cell (World.block_lt_of_cell? w _ hw165_0)).trans hw165_0), ((HB.out.cell (World.block_lt_of_cell? w _ hw165_1)).trans hw165_1), ((HB.out.cell (World.block_lt_of_cell? w _ hw165_2)).trans hw165_2)⟩ (fun hHeld => ?_)
       clear hK K
       refine norm_ (a' := ?_) ?_ ?_
       rotate_left
       ·show Act.put _ (some 74) _ = _
        simp only [Act.put, sZ1, sZ2, sZ3, i64_w, i32_w]
        rfl
       refine pure_ (i := 22) (N := some 75) (v := ?_) (a' := ?_) L23' rfl rfl (any_of HT_.out kZ) (fun _ _ _ h => h) (Or.inl ⟨by rfl, ?_⟩) ?_ ?_
       rotate_left
       ·intro w'
        go_simp
        with_reducible rfl
       rotate_left
       ·simp only [Act.put, sZ1, sZ2, sZ3, i64_w, i32_w]
        rfl
       refine pure_ (i := 23) (N := some 76) (v := ?_) (a' := ?_) L24' rfl rfl (any_of HT_.out kZ) (fun _ _ _ h => h) (Or.inl ⟨by rfl, ?_⟩) ?_ ?_
       rotate_left
       ·intro w'
        go_simp
        with_reducible rfl
       rotate_left
       ·simp only [Act.put, sZ1, sZ2, sZ3, i64_w, i32_w]
        rfl
       refine pure_ (i := 24) (N := some 6) (v := ?_) (a' := ?_) L25' rfl rfl (any_of HT_.out kZ) (fun _ _ _ h => h) (Or.inl ⟨by rfl, ?_⟩) ?_ ?_
       rotate_left
       ·intro w'
        go_simp
        with_reducible rfl
       rotate_left
       ·simp only [Act.put, sZ1, sZ2, sZ3, i64_w, i32_w]
        rfl
       refine done_ (done_of HT_.out kZ) ?_
       try go_wp2
       go_roundg k3
       case measure => have := HJ2.out; have := HK2.out; have := HK3.out; omega
       case rel => exact ⟨(((((((x6_3 ++ (⟨#[80, 124]⟩ : ByteArray)) ++ ((rd_T174 l1 x7_3).f0)) ++ (⟨#[124]⟩ : ByteArray)) ++ ((rd_T174 l1 x7_3).f1)) ++ (⟨#[124]⟩ : ByteArray)) ++ t166) ++ (⟨#[10]⟩ : ByteArray)), (wrap64 (x7_3 + 1)), tZB, tZB, H', ⟨by have := HJ2.out; have := HK2.out; have := HK3.out; omega⟩, ⟨bZ⟩⟩
end Go.Proofs.Ytmpknbdbichdiaa.PFnExactReadBank
