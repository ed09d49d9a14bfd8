import Derived.Maps.OwnSet
import Derived.Maps.OwnOps
import Derived.Maps.RangeWalk
import Derived.WideKeyEntry
import Derived.WideKeyPair
import Derived.DeepKeys4
import Derived.Test.YtobbemdkipknnaaXWMore
import Derived.Test.YtobbemdkipknnaaXWAt
import Derived.Test.YtobbemdkipknnaaXWLast
import Derived.Test.YtobbemdkipknnaaXWShare
import Derived.Test.YtobbemdkipknnaaXWKept
set_option linter.unusedVariables false
set_option linter.unusedSimpArgs false
namespace Go.Proofs.Ytobbemdkipknnaa.MapWords
open Go Go.RowKit Go.Proofs.YtobbemdkipknnaaW.PrintWords Go.Proofs.YtobbemdkipknnaaW.PrintLast Go.Proofs.YtobbemdkipknnaaW.PrintMore
open Go.Maps (Keyed)
open Go.ChangeMaps
def mapBlock : Value → Option Nat
  | .map (some b) => some b
  | _ => none
structure MK (κ ε : Type) [DecidableEq κ] where
  P : Program
  t : Nat
  k : Nat
  e : Nat
  R : Value → Option (DataW Unit × List MemPlace) := plainElem P e
  law : Keyed P k
  ut : P.underlying t = some (.map k e)
  encK : κ → Value
  litK : κ → Lit
  okK : κ → Prop
  key : ∀ x, okK x → keyOf P k (encK x) = some (litK x)
  inj : ∀ x y, okK x → okK y → litK x = litK y → x = y
  isk : ∀ x, WideAt.IsKeyLit (litK x)
  encE : ε → Value
  datE : ε → DataW Unit
  okE : ε → Prop
  zE : ε
  okz : okE zE
  elem : ∀ x, okE x → R (encE x) = some (datE x, [])
  einv : ∀ v z, R v = some z → ∃ x, v = encE x ∧ z = (datE x, []) ∧ okE x
  einj : ∀ x y, datE x = datE y → x = y
  zero : ∀ w, (zeroValue e).run P w = .ok (encE zE) w
  E : List Nat := []
def mget {κ ε : Type} [DecidableEq κ] (z : ε) : List (κ × ε) → κ → ε
  | [], _ => z
  | (k', v) :: r, k => if k' = k then v else mget z r k
def mhas {κ ε : Type} [DecidableEq κ] : List (κ × ε) → κ → Bool
  | [], _ => false
  | (k', _) :: r, k => if k' = k then true else mhas r k
def YK {κ ε : Type} [DecidableEq κ] (m : MK κ ε) (D : DataW Unit) (xs : List (κ × ε)) : Prop :=
  (∀ x, m.okK x → D.atKey (m.litK x) (m.datE m.zE) = m.datE (mget m.zE xs x) ∧ Maps.has D (m.litK x) = mhas xs x) ∧ (∀ p ∈ xs, m.okK p.1) ∧ ∀ kl, Maps.has D kl = true → ∃ x, m.okK x ∧ kl = m.litK x
theorem YK_nil {κ ε : Type} [DecidableEq κ] (m : MK κ ε) : YK m (.map []) [] := ⟨fun x _ => ⟨rfl, rfl⟩, fun p hp => by simp at hp, fun kl h => by simp [Maps.has] at h⟩
theorem YK_put {κ ε : Type} [DecidableEq κ] {m : MK κ ε} {D : DataW Unit} {xs : List (κ × ε)} (h : YK m D xs) (hM : Maps.IsMap D) (key : κ) (val : ε) (hk : m.okK key) : YK m (D.put (m.litK key) (m.datE val)) ((key, val) :: xs) := by
  refine ⟨fun x hxo => ?_, fun p hp => ?_, fun kl hkl => ?_⟩
  · by_cases hxk : key = x
    · subst hxk
      exact ⟨by rw [Maps.atKey_put_same hM (m.isk key)]; simp [mget], by rw [Maps.has_put_same hM (m.isk key)]; simp [mhas]⟩
    · have hne : m.litK x ≠ m.litK key := fun hh => hxk (m.inj _ _ hk hxo hh.symm)
      exact ⟨by rw [Maps.atKey_put_other hne]; simp [mget, hxk, (h.1 x hxo).1], by rw [Maps.has_put_other hne]; simp [mhas, hxk, (h.1 x hxo).2]⟩
  · rcases List.mem_cons.1 hp with rfl | hp
    · exact hk
    · exact h.2.1 p hp
  · by_cases he : kl = m.litK key
    · exact ⟨key, hk, he⟩
    · rw [Maps.has_put_other he] at hkl
      exact h.2.2 kl hkl
namespace Kd
section
variable {κ ε : Type} [DecidableEq κ]
def Y (m : MK κ ε) (_t : Nat) (w : World) (base : Nat) (ok : Nat → Prop) (v : Value) (xs : List (κ × ε)) : Prop :=
  ∃ b D, v = .map (some b) ∧ ok b ∧ base ≤ b ∧ w.ownsMap m.P m.k m.R b xs.length D ∧ YK m D xs
variable {m : MK κ ε} {e : Nat} {w w1 : World} {base : Nat} {ok ok' : Nat → Prop} {u v : Value} {xs : List (κ × ε)}
theorem Y_mono (h : Y m e w base ok v xs) (hok : ∀ k, ok k → ok' k) : Y m e w base ok' v xs := by
  obtain ⟨b, D, h1, h2, h3, h4, h5⟩ := h
  exact ⟨b, D, h1, hok b h2, h3, h4, h5⟩
theorem Y_base (h : Y m e w base ok v xs) : ∀ k, mapBlock v = some k → base ≤ k := by
  obtain ⟨b, D, rfl, h2, h3, h4, h5⟩ := h
  intro k hk
  obtain rfl : b = k := by simpa [mapBlock] using hk
  exact h3
theorem Y_block (h : Y m e w base ok v xs) : ∃ b es c, v = .map (some b) ∧ base ≤ b ∧ b < w.heap.size ∧ w.heap[b]? = some (.map es c) := by
  obtain ⟨b, D, rfl, h2, h3, h4, h5⟩ := h
  have hlt := h4.lt
  obtain ⟨es, c, hb, _⟩ := h4
  exact ⟨b, es, c, rfl, h3, hlt, hb⟩
theorem Y_lower {base' : Nat} (h : Y m e w base ok v xs) (hb : base' ≤ base) : Y m e w base' ok v xs := by
  obtain ⟨b, D, h1, h2, h3, h4, h5⟩ := h
  exact ⟨b, D, h1, h2, Nat.le_trans hb h3, h4, h5⟩
theorem Y_step (h : Y m e w base ok v xs) (hm : ∀ k es c, ok k → k < w.heap.size → w.heap[k]? = some (.map es c) → w1.heap[k]? = w.heap[k]?) : Y m e w1 base ok v xs := by
  obtain ⟨b, D, h1, h2, h3, h4, h5⟩ := h
  have hlt := h4.lt
  obtain ⟨es, c, hb, hF, hs, hD⟩ := h4
  exact ⟨b, D, h1, h2, h3, ⟨es, c, (hm b es c h2 hlt hb).trans hb, hF, hs, hD⟩, h5⟩
theorem Y_below (h : Y m e w base ok v xs) (hb : Below w.heap.size w w1) : Y m e w1 base ok v xs := Y_step h (fun k _ _ _ hk _ => hb.block k hk)
theorem Y_alloc (h : Y m e w base ok v xs) (o : Obj) : Y m e (w.alloc o) base ok v xs := Y_below h (below_alloc (Below.refl _ _) o)
theorem Y_drew (h : Y m e w base ok v xs) : Y m e w.drew base ok v xs := Y_below h (below_drew (Below.refl _ _))
theorem Y_drewN (h : Y m e w base ok v xs) (n : Nat) : Y m e (w.drewN n) base ok v xs := Y_below h (pw_below_drewN (Below.refl _ _) n)
theorem heap_setCell_map (w : World) (p : Addr) (x : Value) (k : Nat) (es : Array MapEntry) (c : Nat) (hb : w.heap[k]? = some (.map es c)) : (w.setCell p x).heap[k]? = w.heap[k]? := by
  by_cases hk : k = p.block
  · subst hk
    simp only [World.setCell]
    rw [Array.getElem?_modify]
    simp [hb]
  · exact Below.heap_setCell w p x k hk
theorem Y_far {p : Addr} (h : Y m e w base ok v xs) (_hok : ∀ k, ok k → k ≠ p.block) (x : Value) : Y m e (w.setCell p x) base ok v xs := Y_step h (fun k es c _ _ hb => heap_setCell_map w p x k es c hb)
theorem Y_types (h : Y m e w base ok v xs) {g t : Nat} {cells : Array Value} (hb : w.heap[g]? = some (.cells cells t (0, 0))) (_ht : ∀ q, q ∈ e :: m.E → q ≠ t) : Y m e w base (fun k => ok k ∧ k ≠ g) v xs := by
  obtain ⟨b, D, h1, h2, h3, ⟨es, c, hb', hF, hs, hD⟩, h5⟩ := h
  exact ⟨b, D, h1, ⟨h2, by rintro rfl; rw [hb'] at hb; cases hb⟩, h3, ⟨es, c, hb', hF, hs, hD⟩, h5⟩
theorem blk_turn {g t : Nat} {cells : Array Value} {fr : Nat × Nat} (h : w.heap[g]? = some (.cells cells t fr)) (h' : Y m e w base ok u xs) (hg : w.grownBy w1 (mapBlock u)) : w1.heap[g]? = some (.cells cells t fr) := by
  obtain ⟨b, es, c, rfl, _, _, hb⟩ := Y_block h'
  have hlt : g < w.heap.size := (Array.getElem?_eq_some_iff.1 h).1
  refine (hg.block g hlt (fun he => ?_)).trans h
  have he' : g = b := by simpa [mapBlock] using he
  subst he'
  rw [hb] at h
  cases h
theorem below_turn {w0 : World} (h' : Y m e w base ok u xs) (hB : Below w0.heap.size w0 w) (hle : w0.heap.size ≤ base) (hg : w.grownBy w1 (mapBlock u)) : Below w0.heap.size w0 w1 := by
  refine hB.grown hg hB.size (fun k hk => Nat.le_trans hle (Y_base h' k hk))
theorem Y_get (h : Y m e w base ok v xs) (x : κ) (hx : m.okK x) : (Instr.lookup m.t v (m.encK x) false).run m.P w = .ok (m.encE (mget m.zE xs x)) w := by
  obtain ⟨b, D, rfl, h2, h3, h4, h5⟩ := h
  obtain ⟨v, ps, hrun, hv⟩ := h4.lookup m.law m.ut (m.zero w) (m.elem _ m.okz) (m.key x hx)
  obtain ⟨y, rfl, hz, _⟩ := m.einv _ _ hv
  simp only [Prod.mk.injEq] at hz
  have := m.einj _ _ ((h5.1 x hx).1.symm.trans hz.1)
  rw [hrun, this]
end
section
variable {κ ε : Type} [DecidableEq κ] {m : MK κ ε} {e : Nat} {base : Nat} {ok : Nat → Prop} {u v : Value} {xs : List (κ × ε)}
variable {P : Program} {ops : Array Oper} {rest : List Oper} {o : Oper} {a : Act} {Q : Exit → Act → World → Prop} {W : World}
theorem Y_make (m : MK κ ε) (t : Nat) (hP : P = m.P) (hgd : o.guard = none) (ho : o.op = .makeMap t none)
    (h : ∀ v1 w1, Y m t w1 W.heap.size (fun _ => True) v1 [] → Below W.heap.size W w1 → wpList P ops Q rest (a.put o.dst v1) w1) : wpList P ops Q (o :: rest) a W := by
  subst hP
  refine wpList_plain hgd fun K hK => ?_
  unfold Oper.wp
  have hrun : (execOp a.eval o).run m.P W = .ok (.value (.map (some W.heap.size))) (W.alloc (.map #[] 0)) := by
    simp [execOp, ho, @run_makeMap m.P, Result.andThen]
  rw [hrun]
  refine hK _ _ (h _ _ ⟨W.heap.size, _, rfl, trivial, Nat.le_refl _, World.ownsMap_made W _ _ _, YK_nil _⟩ (below_alloc (Below.refl _ _) _))
theorem gate_mupd {t : TypeId} {p x y : Operand} (_ho : o.op = .mapUpdate t p x y) (h : wpList P ops Q (o :: rest) a W) : wpList P ops Q (o :: rest) a W := h
theorem Y_put (m : MK κ ε) {t : Nat} (hP : P = m.P) (hgd : o.guard = none) (p x y : Operand) (ho : o.op = .mapUpdate m.t p x y) (hN : o.dst = none)
    (v : Value) (xs : List (κ × ε)) (key : κ) (val : ε) (hv : a.eval p = v) (hx : a.eval x = m.encK key) (hy : a.eval y = m.encE val)
    (hO : Y m t W base ok v xs) (hk : m.okK key) (he : m.okE val) (hl : xs.length < 140737488355328)
    (h : ∀ w1, Y m t w1 base ok v ((key, val) :: xs) → W.grownBy w1 (mapBlock v) → wpList P ops Q rest a w1) : wpList P ops Q (o :: rest) a W := by
  subst hP
  obtain ⟨b, D, rfl, h2, h3, h4, h5⟩ := hO
  refine wpList_mapUpdate_own _ hgd p x y m.t ho m.k m.e m.law m.ut _ b xs.length D hv h4 (by simp only [maxLen]; omega) _ _ _ hx hy (m.key key hk) _ [] (m.elem val he) ?_
  intro w1 g1 g2
  rw [hN]
  exact h w1 ⟨b, _, rfl, h2, h3, g1, YK_put h5 h4.isMap key val hk⟩ g2
end
end Kd
theorem wf64 {x : Int} (h1 : -9223372036854775808 ≤ x) (h2 : x ≤ 9223372036854775807) : (Lit.int .i64 x).wf = true := Go.WalkArith.wf_i64 ⟨h1, h2⟩
def okI (x : Int) : Prop := -9223372036854775808 ≤ x ∧ x ≤ 9223372036854775807
def okS (x : ByteArray) : Prop := x.size ≤ 9223372036854775807
def okT {α : Type} (_ : α) : Prop := True
def litS (x : ByteArray) : Lit := .string x.data.toList
theorem litS_inj (x y : ByteArray) (h : litS x = litS y) : x = y := by
  unfold litS at h
  injection h with h
  cases x; cases y
  simp only [ByteArray.mk.injEq]
  exact Array.toList_inj.1 h
theorem elem_bool_inv {P : Program} {e : Nat} (he : P.underlying e = some .bool) (v : Value) (z : DataW Unit × List MemPlace) (h : plainElem P e v = some z) : ∃ x : Bool, v = .bool x ∧ z = (.lit (.bool x), []) ∧ okT x := by
  unfold plainElem at h
  rw [he] at h
  cases v <;> simp at h
  exact ⟨_, rfl, h.symm, trivial⟩
theorem elem_int_inv {P : Program} {e : Nat} (he : P.underlying e = some (.int .i64)) (v : Value) (z : DataW Unit × List MemPlace) (h : plainElem P e v = some z) : ∃ x : Int, v = .int .i64 x ∧ z = (.lit (.int .i64 x), []) ∧ okI x := by
  obtain ⟨a, rfl, hz, hw⟩ := plainElem_int_inv he h
  exact ⟨a, rfl, hz, by have h2 := hw; simp only [Lit.wf, Bool.and_eq_true, decide_eq_true_eq] at h2; exact h2⟩
def mkSB (P : Program) (t k e : Nat) (ut : P.underlying t = some (.map k e)) (uk : P.underlying k = some .string) (ue : P.underlying e = some .bool) (hz : ∀ w, (zeroValue e).run P w = .ok (.bool false) w) : MK ByteArray Bool where
  P := P
  t := t
  k := k
  e := e
  law := Maps.string_keyed uk
  ut := ut
  encK := Value.string
  litK := litS
  okK := okS
  key := fun x hx => Go.WideMaps.keyOf_string_mk uk (by simpa [maxLen, okS] using hx)
  inj := fun x y _ _ h => litS_inj x y h
  isk := fun x => trivial
  encE := Value.bool
  datE := fun x => .lit (.bool x)
  okE := okT
  zE := false
  okz := trivial
  elem := fun x _ => plainElem_bool ue x
  einv := elem_bool_inv ue
  einj := fun x y h => by injection h with h; injection h
  zero := hz
def mkSI (P : Program) (t k e : Nat) (ut : P.underlying t = some (.map k e)) (uk : P.underlying k = some .string) (ue : P.underlying e = some (.int .i64)) (hz : ∀ w, (zeroValue e).run P w = .ok (.int .i64 0) w) : MK ByteArray Int where
  P := P
  t := t
  k := k
  e := e
  law := Maps.string_keyed uk
  ut := ut
  encK := Value.string
  litK := litS
  okK := okS
  key := fun x hx => Go.WideMaps.keyOf_string_mk uk (by simpa [maxLen, okS] using hx)
  inj := fun x y _ _ h => litS_inj x y h
  isk := fun x => trivial
  encE := Value.int .i64
  datE := fun x => .lit (.int .i64 x)
  okE := okI
  zE := 0
  okz := by unfold okI; omega
  elem := fun x hx => plainElem_int ue (wf64 hx.1 hx.2)
  einv := elem_int_inv ue
  einj := fun x y h => by injection h with h; injection h
  zero := hz
def mkIB (P : Program) (t k e : Nat) (ut : P.underlying t = some (.map k e)) (uk : P.underlying k = some (.int .i64)) (ue : P.underlying e = some .bool) (hz : ∀ w, (zeroValue e).run P w = .ok (.bool false) w) : MK Int Bool where
  P := P
  t := t
  k := k
  e := e
  law := Maps.int_keyed uk
  ut := ut
  encK := Value.int .i64
  litK := Lit.int .i64
  okK := okI
  key := fun x hx => Maps.keyOf_int_mk uk (wf64 hx.1 hx.2)
  inj := fun x y _ _ h => by injection h
  isk := fun x => trivial
  encE := Value.bool
  datE := fun x => .lit (.bool x)
  okE := okT
  zE := false
  okz := trivial
  elem := fun x _ => plainElem_bool ue x
  einv := elem_bool_inv ue
  einj := fun x y h => by injection h with h; injection h
  zero := hz
def mkII (P : Program) (t k e : Nat) (ut : P.underlying t = some (.map k e)) (uk : P.underlying k = some (.int .i64)) (ue : P.underlying e = some (.int .i64)) (hz : ∀ w, (zeroValue e).run P w = .ok (.int .i64 0) w) : MK Int Int where
  P := P
  t := t
  k := k
  e := e
  law := Maps.int_keyed uk
  ut := ut
  encK := Value.int .i64
  litK := Lit.int .i64
  okK := okI
  key := fun x hx => Maps.keyOf_int_mk uk (wf64 hx.1 hx.2)
  inj := fun x y _ _ h => by injection h
  isk := fun x => trivial
  encE := Value.int .i64
  datE := fun x => .lit (.int .i64 x)
  okE := okI
  zE := 0
  okz := by unfold okI; omega
  elem := fun x hx => plainElem_int ue (wf64 hx.1 hx.2)
  einv := elem_int_inv ue
  einj := fun x y h => by injection h with h; injection h
  zero := hz
open Classical in
noncomputable def rdX {ε : Type} (enc : ε → Value) (dat : ε → DataW Unit) (v : Value) : Option (DataW Unit × List MemPlace) := if h : ∃ x, v = enc x then some (dat (Classical.choose h), []) else none
open Classical in
noncomputable def mkSX {ε : Type} (P : Program) (t k e : Nat) (ut : P.underlying t = some (.map k e)) (uk : P.underlying k = some .string) (enc : ε → Value) (dat : ε → DataW Unit) (z : ε) (hi : ∀ x y, enc x = enc y → x = y) (hd : ∀ x y, dat x = dat y → x = y)
    (hz : ∀ w, (zeroValue e).run P w = .ok (enc z) w) : MK ByteArray ε where
  P := P
  t := t
  k := k
  e := e
  R := rdX enc dat
  law := Maps.string_keyed uk
  ut := ut
  encK := Value.string
  litK := litS
  okK := okS
  key := fun x hx => Go.WideMaps.keyOf_string_mk uk (by simpa [maxLen, okS] using hx)
  inj := fun x y _ _ h => litS_inj x y h
  isk := fun x => trivial
  encE := enc
  datE := dat
  okE := okT
  zE := z
  okz := trivial
  elem := fun x _ => by
    have h : ∃ y, enc x = enc y := ⟨x, rfl⟩
    unfold rdX
    rw [dif_pos h]
    have := hi _ _ (Classical.choose_spec h)
    rw [← this]
  einv := fun v y h => by
    unfold rdX at h
    split at h
    · rename_i g
      injection h with h
      exact ⟨_, Classical.choose_spec g, h.symm, trivial⟩
    · cases h
  einj := hd
  zero := hz
def okPI (x : Int × Int) : Prop := okI x.1 ∧ okI x.2
def encPI (x : Int × Int) : Value := .agg #[.int .i64 x.1, .int .i64 x.2]
def litPI (P : Program) (k : Nat) (x : Int × Int) : Lit := (keyOf P k (encPI x)).getD (.bool false)
def mkPI (P : Program) (t k e q : Nat) (ut : P.underlying t = some (.map k e)) (A : Go.WideMaps.ArrKey P k q 2) (uq : P.underlying q = some (.int .i64)) (hsz : ∃ m, P.types.size = m + 1) (K : Keyed P k) (ue : P.underlying e = some (.int .i64)) (hz : ∀ w, (zeroValue e).run P w = .ok (.int .i64 0) w) : MK (Int × Int) Int where
  P := P
  t := t
  k := k
  e := e
  law := K
  ut := ut
  encK := encPI
  litK := litPI P k
  okK := okPI
  key := fun x hx => by
    have h := Go.WideMaps.keyOf_pair A uq hsz (wf64 hx.1.1 hx.1.2) (wf64 hx.2.1 hx.2.2)
    unfold litPI encPI
    rw [h]
    rfl
  inj := fun x y hx hy h => by
    have h1 := Go.WideMaps.keyOf_pair A uq hsz (wf64 hx.1.1 hx.1.2) (wf64 hx.2.1 hx.2.2)
    have h2 := Go.WideMaps.keyOf_pair A uq hsz (wf64 hy.1.1 hy.1.2) (wf64 hy.2.1 hy.2.2)
    have h3 : litPI P k x = litPI P k y := h
    unfold litPI encPI at h3
    rw [h1, h2] at h3
    simp only [Option.getD_some] at h3
    rw [← h3] at h2
    have h4 := K.inj h1 h2
    simp only [Value.agg.injEq, Array.mk.injEq, List.cons.injEq, Value.int.injEq, true_and, and_true] at h4
    exact Prod.ext h4.1 h4.2
  isk := fun x => by
    unfold litPI
    cases h : keyOf P k (encPI x) with
    | none => exact trivial
    | some l => exact K.key h
  encE := Value.int .i64
  datE := fun x => .lit (.int .i64 x)
  okE := okI
  zE := 0
  okz := by unfold okI; omega
  elem := fun x hx => plainElem_int ue (wf64 hx.1 hx.2)
  einv := elem_int_inv ue
  einj := fun x y h => by injection h with h; injection h
  zero := hz
def YR {κ ε : Type} [DecidableEq κ] (m : MK κ ε) (w : World) (v : Value) (xs : List (κ × ε)) (r : Nat) (left : Lit → Bool) (cnt : Nat) : Prop :=
  ∃ b D, v = .map (some b) ∧ w.ranges m.P m.k m.R b r xs.length D left cnt ∧ YK m D xs ∧ ∀ kl, left kl = true → Maps.has D kl = true
def rleft (v : Value) (r : Nat) (w : World) : Nat := match v with | .map (some b) => w.rangeLeft b r | _ => 0
theorem YR_left {κ ε : Type} [DecidableEq κ] {m : MK κ ε} {w : World} {v : Value} {xs : List (κ × ε)} {r : Nat} {left : Lit → Bool} {cnt : Nat} (h : YR m w v xs r left cnt) : rleft v r w = cnt := by
  obtain ⟨b, D, rfl, h1, _⟩ := h
  exact h1.left_eq
theorem YR_lt {κ ε : Type} [DecidableEq κ] {m : MK κ ε} {w : World} {v : Value} {xs : List (κ × ε)} {r : Nat} {left : Lit → Bool} {cnt : Nat} (h : YR m w v xs r left cnt) : r < w.heap.size := by
  obtain ⟨b, D, rfl, h1, _⟩ := h
  exact h1.lt
section
variable {κ ε : Type} [DecidableEq κ] {m : MK κ ε} {P : Program} {ops : Array Oper} {rest : List Oper} {o : Oper} {a : Act} {Q : Exit → Act → World → Prop} {W : World}
theorem Y_range (hP : P = m.P) (hgd : o.guard = none) (p : Operand) (hop : o.op = Op.range m.t p) {e base : Nat} {ok : Nat → Prop} {v : Value} {xs : List (κ × ε)} (hv : a.eval p = v) (h : Kd.Y m e W base ok v xs)
    (hK : ∀ w' r left cnt, r = W.heap.size → YR m w' v xs r left cnt → (∀ x, m.okK x → left (m.litK x) = mhas xs x) → Below W.heap.size W w' → wpList P ops Q rest (a.put o.dst (.pointer (some ⟨r, 0, none⟩))) w') :
    wpList P ops Q (o :: rest) a W := by
  subst hP
  obtain ⟨b, D, rfl, h2, h3, h4, h5⟩ := h
  refine wpList_range_own W hgd p m.t hop m.k m.e m.law m.ut _ b xs.length D hv h4 (fun w' hr hg hs => ?_)
  refine hK w' _ _ _ rfl ⟨b, D, rfl, hr, h5, fun _ h => h⟩ (fun x hx => (h5.1 x hx).2) ?_
  exact ⟨hg.os, hg.tape, hg.output, hg.size, fun k hk => hg.block k hk (by simp)⟩
theorem Y_next (hP : P = m.P) (hgd : o.guard = none) (it : Operand) (hop : o.op = Op.next it false) {v : Value} {xs : List (κ × ε)} {r : Nat} {left : Lit → Bool} {cnt : Nat} (hit : a.eval it = .pointer (some ⟨r, 0, none⟩)) (h : YR m W v xs r left cnt)
    (hDone : (∀ kl, left kl = false) → wpList P ops Q rest (a.put o.dst (.tuple #[.bool false])) W)
    (hMore : ∀ (x : κ) (key : Value) (w' : World) (cnt' : Nat), m.okK x → mhas xs x = true → left (m.litK x) = true → YR m w' v xs r (fun z => left z && !z.sameKey (m.litK x)) cnt' → cnt' < cnt → W.grownBy w' (some r) →
      (Instr.entry (.pointer (some ⟨r, 0, none⟩))).run P w' = .ok (.tuple #[key, m.encE (mget m.zE xs x)]) w' → wpList P ops Q rest (a.put o.dst (.tuple #[.bool true, key, m.encE (mget m.zE xs x)])) w') :
    wpList P ops Q (o :: rest) a W := by
  subst hP
  obtain ⟨b, D, rfl, hr, h5, hl⟩ := h
  refine wpList_next_ranges W hgd it hop m.k m.law m.R (fun x : Value => x) m.encE (fun key kl _ => ⟨key, rfl⟩) (fun v y hv => by obtain ⟨c, rfl, _⟩ := m.einv v y hv; exact ⟨c, rfl⟩) b r xs.length D left cnt hit hr (fun _ h => hDone h) ?_
  intro key c kl y w' cnt' hkey hlk hR hat hr' hlt hg hs hen
  obtain ⟨x0, hx0, rfl⟩ := h5.2.2 kl (hl kl hlk)
  obtain ⟨c', e1, rfl, _⟩ := m.einv _ _ hR
  have e2 : c' = mget m.zE xs x0 := m.einj _ _ ((hat (m.datE m.zE)).symm.trans (h5.1 x0 hx0).1)
  rw [e1, e2] at hen ⊢
  refine hMore x0 key w' cnt' hx0 ?_ hlk ⟨b, D, rfl, hr', h5, fun z hz => hl z (by simp only [Bool.and_eq_true] at hz; exact hz.1)⟩ hlt hg hen
  rw [← (h5.1 x0 hx0).2]
  exact hl _ hlk
end
theorem mhas_mem {κ ε : Type} [DecidableEq κ] (xs : List (κ × ε)) (x : κ) : mhas xs x = true ↔ ∃ p ∈ xs, p.1 = x := by
  induction xs with
  | nil => simp [mhas]
  | cons q xs ih =>
    obtain ⟨k', v⟩ := q
    simp only [mhas, List.mem_cons]
    split
    · rename_i h; exact ⟨fun _ => ⟨_, .inl rfl, h⟩, fun _ => rfl⟩
    · rename_i h
      rw [ih]
      exact ⟨fun ⟨p, hp, e⟩ => ⟨p, .inr hp, e⟩, fun ⟨p, hp, e⟩ => ⟨p, hp.resolve_left (fun he => h (by rw [← e, he])), e⟩⟩
section
variable {κ : Type} [DecidableEq κ] {m : MK κ Int} {w : World} {v : Value} {xs : List (κ × Int)} {r : Nat} {left : Lit → Bool} {cnt : Nat}
end
def mkeys {κ ε : Type} [DecidableEq κ] : List (κ × ε) → List κ
  | [] => []
  | (k, _) :: r => if mhas r k then mkeys r else k :: mkeys r
def mels {κ ε : Type} [DecidableEq κ] (z : ε) (xs : List (κ × ε)) : List ε := (mkeys xs).map (mget z xs)
theorem mkeys_mem {κ ε : Type} [DecidableEq κ] (xs : List (κ × ε)) (k : κ) : k ∈ mkeys xs ↔ mhas xs k = true := by
  induction xs with
  | nil => simp [mkeys, mhas]
  | cons p r ih =>
    obtain ⟨k', v⟩ := p
    by_cases h : mhas r k' = true
    · rw [show mkeys ((k', v) :: r) = mkeys r from if_pos h, ih]
      show _ ↔ (if k' = k then true else mhas r k) = true
      by_cases hk : k' = k
      · subst hk; simp [h]
      · simp [hk]
    · rw [show mkeys ((k', v) :: r) = k' :: mkeys r from if_neg h, List.mem_cons, ih]
      show _ ↔ (if k' = k then true else mhas r k) = true
      by_cases hk : k' = k
      · subst hk; simp
      · rw [if_neg hk]
        exact ⟨fun h => h.resolve_left (fun e => hk e.symm), .inr⟩
theorem mkeys_nodup {κ ε : Type} [DecidableEq κ] (xs : List (κ × ε)) : (mkeys xs).Nodup := by
  induction xs with
  | nil => simp [mkeys]
  | cons p r ih =>
    obtain ⟨k', v⟩ := p
    by_cases h : mhas r k' = true
    · rw [show mkeys ((k', v) :: r) = mkeys r from if_pos h]; exact ih
    · rw [show mkeys ((k', v) :: r) = k' :: mkeys r from if_neg h]
      exact List.nodup_cons.2 ⟨fun hm => h ((mkeys_mem r k').1 hm), ih⟩
theorem filter_more {κ : Type} {p q : κ → Bool} {x : κ} (hx : p x = false) (hq : q x = true) (ho : ∀ y, y ≠ x → q y = p y) : ∀ l : List κ, l.Nodup → x ∈ l → (l.filter q).Perm (x :: l.filter p)
  | [], _, h => by simp at h
  | a :: l, hn, hm => by
    obtain ⟨h1, h2⟩ := List.nodup_cons.1 hn
    by_cases ha : a = x
    · subst ha
      have e : l.filter q = l.filter p := List.filter_congr (fun y hy => ho y (fun e => h1 (e ▸ hy)))
      rw [List.filter_cons_of_pos hq, List.filter_cons_of_neg (by rw [hx]; decide), e]
    · have ih := filter_more hx hq ho l h2 ((List.mem_cons.1 hm).resolve_left (fun e => ha e.symm))
      by_cases hp : p a = true
      · rw [List.filter_cons_of_pos (by rw [ho a ha]; exact hp), List.filter_cons_of_pos hp]
        exact (ih.cons a).trans (List.Perm.swap x a _)
      · rw [List.filter_cons_of_neg (by rw [ho a ha]; exact hp), List.filter_cons_of_neg hp]
        exact ih
section
variable {κ ε : Type} [DecidableEq κ] {m : MK κ ε} {w : World} {v : Value} {xs : List (κ × ε)} {r : Nat} {left : Lit → Bool} {cnt : Nat}
def Coll (m : MK κ ε) (xs : List (κ × ε)) (left : Lit → Bool) (ys : List ε) : Prop := ys.Perm (((mkeys xs).filter fun k => !left (m.litK k)).map (mget m.zE xs))
theorem coll_start (h : YR m w v xs r left cnt) (hl : ∀ x, m.okK x → left (m.litK x) = mhas xs x) : Coll m xs left [] := by
  obtain ⟨b, D, rfl, _, h5, _⟩ := h
  unfold Coll
  rw [List.filter_eq_nil_iff.2 (fun k hk => ?_)]
  · exact List.Perm.refl _
  · have hm := (mkeys_mem xs k).1 hk
    obtain ⟨p, hp, e⟩ := (mhas_mem xs k).1 hm
    rw [hl k (e ▸ h5.2.1 p hp), hm]
    decide
theorem coll_next (h : YR m w v xs r left cnt) {x : κ} (hx : m.okK x) (hh : mhas xs x = true) (hl : left (m.litK x) = true) {ys : List ε} (hc : Coll m xs left ys) : Coll m xs (fun z => left z && !z.sameKey (m.litK x)) (ys ++ [mget m.zE xs x]) := by
  obtain ⟨b, D, rfl, _, h5, _⟩ := h
  unfold Coll at hc ⊢
  have hok : ∀ k ∈ mkeys xs, m.okK k := fun k hk => by
    obtain ⟨p, hp, e⟩ := (mhas_mem xs k).1 ((mkeys_mem xs k).1 hk)
    exact e ▸ h5.2.1 p hp
  have key : ((mkeys xs).filter fun k => !(left (m.litK k) && !(m.litK k).sameKey (m.litK x))).Perm (x :: (mkeys xs).filter fun k => !left (m.litK k)) := by
    have e : ((mkeys xs).filter fun k => !(left (m.litK k) && !(m.litK k).sameKey (m.litK x))) = (mkeys xs).filter fun k => (!left (m.litK k)) || decide (k = x) := by
      refine List.filter_congr (fun k hk => ?_)
      by_cases hkx : k = x
      · subst hkx
        have : (m.litK k).sameKey (m.litK k) = true := WideAt.sameKey_self (m.isk k)
        rw [this]; simp
      · have hne : m.litK k ≠ m.litK x := fun he => hkx (m.inj _ _ (hok k hk) hx he)
        rw [Maps.sameKey_ne hne]; simp [hkx]
    rw [e]
    refine filter_more (p := fun k => !left (m.litK k)) (q := fun k => (!left (m.litK k)) || decide (k = x)) (by simp [hl]) (by simp) (fun y hy => by simp [hy]) _ (mkeys_nodup xs) ((mkeys_mem xs x).2 hh)
  refine (List.perm_append_singleton _ _).trans ?_
  exact (hc.cons _).trans ((key.map (mget m.zE xs)).symm)
theorem coll_done (hl : ∀ kl, left kl = false) {ys : List ε} (hc : Coll m xs left ys) : ys.Perm (mels m.zE xs) := by
  unfold Coll at hc
  rw [List.filter_eq_self.2 (fun k _ => by rw [hl]; rfl)] at hc
  exact hc
theorem coll_len {ys : List ε} (hc : Coll m xs left ys) : ys.length ≤ (mels m.zE xs).length := by
  unfold Coll at hc
  unfold mels
  rw [hc.length_eq, List.length_map, List.length_map]
  exact List.length_filter_le _ _
theorem YR_step {w1 : World} (h : YR m w v xs r left cnt) (hm : ∀ k, k < w.heap.size → (∀ cells t fr, w.heap[k]? ≠ some (.cells cells t fr)) → w1.heap[k]? = w.heap[k]?) : YR m w1 v xs r left cnt := by
  obtain ⟨b, D, rfl, h1, h2, h3⟩ := h
  refine ⟨b, D, rfl, ?_, h2, h3⟩
  have hlt := h1.owns.lt
  have hlr := h1.lt
  obtain ⟨es, clock, since, seen, c0, hb, F, hs, hD, hr, rest⟩ := h1
  exact ⟨es, clock, since, seen, c0, (hm b hlt (fun _ _ _ e => by rw [hb] at e; cases e)).trans hb, F, hs, hD, (hm r hlr (fun _ _ _ e => by rw [hr] at e; cases e)).trans hr, rest⟩
theorem YR_below {w1 : World} (h : YR m w v xs r left cnt) (hb : Below w.heap.size w w1) : YR m w1 v xs r left cnt := YR_step h (fun k hk _ => hb.block k hk)
theorem YR_grown {w1 : World} {row : Option Nat} (h : YR m w v xs r left cnt) (hg : w.grownBy w1 row) (hrow : ∀ k, row = some k → ∃ cells t fr, w.heap[k]? = some (.cells cells t fr)) : YR m w1 v xs r left cnt :=
  YR_step h (fun k hk hn => hg.block k hk (fun e => by
    obtain ⟨c, t, fr, hc⟩ := hrow k e.symm
    exact hn c t fr hc))
end
end Go.Proofs.Ytobbemdkipknnaa.MapWords

