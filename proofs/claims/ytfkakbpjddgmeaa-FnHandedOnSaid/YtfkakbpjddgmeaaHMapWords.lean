import Derived.Maps.OwnSet
import Derived.Maps.OwnOps
import Derived.Maps.RangeWalk
import Derived.WideKeyEntry
import Derived.WideKeyPair
import Derived.DeepKeys4
import Derived.Test.YtfkakbpjddgmeaaHWMore
import Derived.Test.YtfkakbpjddgmeaaHWAt
import Derived.Test.YtfkakbpjddgmeaaHWLast
import Derived.Test.YtfkakbpjddgmeaaHWShare
import Derived.Test.YtfkakbpjddgmeaaHWKept
set_option linter.unusedVariables false
set_option linter.unusedSimpArgs false
namespace Go.Proofs.Ytfkakbpjddgmeaa.MapWords
open Go Go.RowKit Go.Proofs.YtfkakbpjddgmeaaW.PrintWords Go.Proofs.YtfkakbpjddgmeaaW.PrintLast Go.Proofs.YtfkakbpjddgmeaaW.PrintMore
open Go.Maps (Keyed)
open Go.ChangeMaps
def mapBlock : Value → Option Nat
  | .map (some b) => some b
  | _ => none
structure MK (κ ε : Type) [DecidableEq κ] where
  P : Program
  t : Nat
  k : Nat
  e : Nat
  law : Keyed P k
  ut : P.underlying t = some (.map k e)
  encK : κ → Value
  litK : κ → Lit
  okK : κ → Prop
  key : ∀ x, okK x → keyOf P k (encK x) = some (litK x)
  inj : ∀ x y, okK x → okK y → litK x = litK y → x = y
  isk : ∀ x, WideAt.IsKeyLit (litK x)
  encE : ε → Value
  datE : ε → DataW Unit
  okE : ε → Prop
  zE : ε
  okz : okE zE
  elem : ∀ x, okE x → plainElem P e (encE x) = some (datE x, [])
  einv : ∀ v z, plainElem (H := Unit) P e v = some z → ∃ x, v = encE x ∧ z = (datE x, []) ∧ okE x
  einj : ∀ x y, datE x = datE y → x = y
  zero : ∀ w, (zeroValue e).run P w = .ok (encE zE) w
  E : List Nat := []
def mget {κ ε : Type} [DecidableEq κ] (z : ε) : List (κ × ε) → κ → ε
  | [], _ => z
  | (k', v) :: r, k => if k' = k then v else mget z r k
def mhas {κ ε : Type} [DecidableEq κ] : List (κ × ε) → κ → Bool
  | [], _ => false
  | (k', _) :: r, k => if k' = k then true else mhas r k
def YK {κ ε : Type} [DecidableEq κ] (m : MK κ ε) (D : DataW Unit) (xs : List (κ × ε)) : Prop :=
  (∀ x, m.okK x → D.atKey (m.litK x) (m.datE m.zE) = m.datE (mget m.zE xs x) ∧ Maps.has D (m.litK x) = mhas xs x) ∧ (∀ p ∈ xs, m.okK p.1) ∧ ∀ kl, Maps.has D kl = true → ∃ x, m.okK x ∧ kl = m.litK x
theorem YK_nil {κ ε : Type} [DecidableEq κ] (m : MK κ ε) : YK m (.map []) [] := ⟨fun x _ => ⟨rfl, rfl⟩, fun p hp => by simp at hp, fun kl h => by simp [Maps.has] at h⟩
theorem YK_put {κ ε : Type} [DecidableEq κ] {m : MK κ ε} {D : DataW Unit} {xs : List (κ × ε)} (h : YK m D xs) (hM : Maps.IsMap D) (key : κ) (val : ε) (hk : m.okK key) : YK m (D.put (m.litK key) (m.datE val)) ((key, val) :: xs) := by
  refine ⟨fun x hxo => ?_, fun p hp => ?_, fun kl hkl => ?_⟩
  · by_cases hxk : key = x
    · subst hxk
      exact ⟨by rw [Maps.atKey_put_same hM (m.isk key)]; simp [mget], by rw [Maps.has_put_same hM (m.isk key)]; simp [mhas]⟩
    · have hne : m.litK x ≠ m.litK key := fun hh => hxk (m.inj _ _ hk hxo hh.symm)
      exact ⟨by rw [Maps.atKey_put_other hne]; simp [mget, hxk, (h.1 x hxo).1], by rw [Maps.has_put_other hne]; simp [mhas, hxk, (h.1 x hxo).2]⟩
  · rcases List.mem_cons.1 hp with rfl | hp
    · exact hk
    · exact h.2.1 p hp
  · by_cases he : kl = m.litK key
    · exact ⟨key, hk, he⟩
    · rw [Maps.has_put_other he] at hkl
      exact h.2.2 kl hkl
namespace Kd
section
variable {κ ε : Type} [DecidableEq κ]
def Y (m : MK κ ε) (_t : Nat) (w : World) (base : Nat) (ok : Nat → Prop) (v : Value) (xs : List (κ × ε)) : Prop :=
  ∃ b D, v = .map (some b) ∧ ok b ∧ base ≤ b ∧ w.ownsMap m.P m.k (plainElem (H := Unit) m.P m.e) b xs.length D ∧ YK m D xs
variable {m : MK κ ε} {e : Nat} {w w1 : World} {base : Nat} {ok ok' : Nat → Prop} {u v : Value} {xs : List (κ × ε)}
theorem Y_mono (h : Y m e w base ok v xs) (hok : ∀ k, ok k → ok' k) : Y m e w base ok' v xs := by
  obtain ⟨b, D, h1, h2, h3, h4, h5⟩ := h
  exact ⟨b, D, h1, hok b h2, h3, h4, h5⟩
theorem Y_lt (h : Y m e w base ok v xs) : ∀ k, mapBlock v = some k → k < w.heap.size := by
  obtain ⟨b, D, rfl, h2, h3, h4, h5⟩ := h
  intro k hk
  obtain rfl : b = k := by simpa [mapBlock] using hk
  exact h4.lt
theorem Y_base (h : Y m e w base ok v xs) : ∀ k, mapBlock v = some k → base ≤ k := by
  obtain ⟨b, D, rfl, h2, h3, h4, h5⟩ := h
  intro k hk
  obtain rfl : b = k := by simpa [mapBlock] using hk
  exact h3
theorem Y_block (h : Y m e w base ok v xs) : ∃ b es c, v = .map (some b) ∧ base ≤ b ∧ b < w.heap.size ∧ w.heap[b]? = some (.map es c) := by
  obtain ⟨b, D, rfl, h2, h3, h4, h5⟩ := h
  have hlt := h4.lt
  obtain ⟨es, c, hb, _⟩ := h4
  exact ⟨b, es, c, rfl, h3, hlt, hb⟩
theorem Y_lower {base' : Nat} (h : Y m e w base ok v xs) (hb : base' ≤ base) : Y m e w base' ok v xs := by
  obtain ⟨b, D, h1, h2, h3, h4, h5⟩ := h
  exact ⟨b, D, h1, h2, Nat.le_trans hb h3, h4, h5⟩
theorem Y_step (h : Y m e w base ok v xs) (hm : ∀ k es c, ok k → k < w.heap.size → w.heap[k]? = some (.map es c) → w1.heap[k]? = w.heap[k]?) : Y m e w1 base ok v xs := by
  obtain ⟨b, D, h1, h2, h3, h4, h5⟩ := h
  have hlt := h4.lt
  obtain ⟨es, c, hb, hF, hs, hD⟩ := h4
  exact ⟨b, D, h1, h2, h3, ⟨es, c, (hm b es c h2 hlt hb).trans hb, hF, hs, hD⟩, h5⟩
theorem Y_below (h : Y m e w base ok v xs) (hb : Below w.heap.size w w1) : Y m e w1 base ok v xs := Y_step h (fun k _ _ _ hk _ => hb.block k hk)
theorem Y_grown (h : Y m e w base ok v xs) {row : Option Nat} (hg : w.grownBy w1 row) (hok : ∀ k, ok k → some k ≠ row) : Y m e w1 base ok v xs := Y_step h (fun k _ _ ho hk _ => hg.block k hk (hok k ho))
theorem Y_alloc (h : Y m e w base ok v xs) (o : Obj) : Y m e (w.alloc o) base ok v xs := Y_below h (below_alloc (Below.refl _ _) o)
theorem Y_drew (h : Y m e w base ok v xs) : Y m e w.drew base ok v xs := Y_below h (below_drew (Below.refl _ _))
theorem Y_drewN (h : Y m e w base ok v xs) (n : Nat) : Y m e (w.drewN n) base ok v xs := Y_below h (pw_below_drewN (Below.refl _ _) n)
theorem heap_setCell_map (w : World) (p : Addr) (x : Value) (k : Nat) (es : Array MapEntry) (c : Nat) (hb : w.heap[k]? = some (.map es c)) : (w.setCell p x).heap[k]? = w.heap[k]? := by
  by_cases hk : k = p.block
  · subst hk
    simp only [World.setCell]
    rw [Array.getElem?_modify]
    simp [hb]
  · exact Below.heap_setCell w p x k hk
theorem Y_far {p : Addr} (h : Y m e w base ok v xs) (_hok : ∀ k, ok k → k ≠ p.block) (x : Value) : Y m e (w.setCell p x) base ok v xs := Y_step h (fun k es c _ _ hb => heap_setCell_map w p x k es c hb)
theorem Y_types (h : Y m e w base ok v xs) {g t : Nat} {cells : Array Value} (hb : w.heap[g]? = some (.cells cells t (0, 0))) (_ht : ∀ q, q ∈ e :: m.E → q ≠ t) : Y m e w base (fun k => ok k ∧ k ≠ g) v xs := by
  obtain ⟨b, D, h1, h2, h3, ⟨es, c, hb', hF, hs, hD⟩, h5⟩ := h
  exact ⟨b, D, h1, ⟨h2, by rintro rfl; rw [hb'] at hb; cases hb⟩, h3, ⟨es, c, hb', hF, hs, hD⟩, h5⟩
theorem Y_over' {e' : Nat} (h : Y m e w base ok u xs) (hty : ∀ k, v.ownBlock = some k → ∃ cells, w.heap[k]? = some (.cells cells e' (0, 0))) (_ht : ∀ q, q ∈ e :: m.E → q ≠ e') (hg : w.grownBy w1 v.ownBlock) : Y m e w1 base ok u xs :=
  Y_step h (fun k es c _ hk hb => hg.block k hk (fun he => by
    obtain ⟨cells, hc⟩ := hty k he.symm
    rw [hc] at hb
    cases hb))
theorem Y_elder' (h : Y m e w base ok v xs) (hbase : ∀ k, mapBlock u = some k → w.heap.size ≤ k) (hb : Below w.heap.size w w1) : Y m e w1 base (fun k => ok k ∧ some k ≠ mapBlock u) v xs := by
  have hlt := Y_lt h
  obtain ⟨b, D, h1, h2, h3, h4, h5⟩ := Y_below h hb
  refine ⟨b, D, h1, ⟨h2, fun he => ?_⟩, h3, h4, h5⟩
  have h6 := hlt b (by rw [h1]; rfl)
  have h7 := hbase b he.symm
  omega
theorem Y_new' (h : Y m e w1 w.heap.size ok v xs) (hlt : ∀ k, mapBlock u = some k → k < w.heap.size) : Y m e w1 w.heap.size (fun k => ok k ∧ some k ≠ mapBlock u) v xs := by
  obtain ⟨b, D, h1, h2, h3, h4, h5⟩ := h
  refine ⟨b, D, h1, ⟨h2, fun he => ?_⟩, h3, h4, h5⟩
  have h7 := hlt b he.symm
  omega
theorem Y_turn (h : Y m e w base ok v xs) (hg : w.grownBy w1 (mapBlock u)) (hne : ∀ k, ok k → some k ≠ mapBlock u) : Y m e w1 base ok v xs := Y_grown h hg hne
theorem R_turn {α : Type} {d : Kd α} {q : Nat} {base' : Nat} {ok2 : Nat → Prop} {r : Value} {ys : List α} (h : d.R q w base' ok2 r ys) (h' : Y m e w base ok u xs) (hg : w.grownBy w1 (mapBlock u)) : d.R q w1 base' ok2 r ys := by
  obtain ⟨b, es, c, rfl, _, _, hb⟩ := Y_block h'
  refine Kd.R_mono (Kd.R_move (Kd.R_bound h) (fun k hk => hg.block k hk.2.2.1 (fun he => ?_))) (fun _ hk => hk.1)
  obtain ⟨_, _, _, q, hq, cells, hc⟩ := hk
  have he' : k = b := by simpa [mapBlock] using he
  subst he'
  rw [hb] at hc
  cases hc
theorem blk_turn {g t : Nat} {cells : Array Value} {fr : Nat × Nat} (h : w.heap[g]? = some (.cells cells t fr)) (h' : Y m e w base ok u xs) (hg : w.grownBy w1 (mapBlock u)) : w1.heap[g]? = some (.cells cells t fr) := by
  obtain ⟨b, es, c, rfl, _, _, hb⟩ := Y_block h'
  have hlt : g < w.heap.size := (Array.getElem?_eq_some_iff.1 h).1
  refine (hg.block g hlt (fun he => ?_)).trans h
  have he' : g = b := by simpa [mapBlock] using he
  subst he'
  rw [hb] at h
  cases h
theorem below_turn {w0 : World} (h' : Y m e w base ok u xs) (hB : Below w0.heap.size w0 w) (hle : w0.heap.size ≤ base) (hg : w.grownBy w1 (mapBlock u)) : Below w0.heap.size w0 w1 := by
  refine hB.grown hg hB.size (fun k hk => Nat.le_trans hle (Y_base h' k hk))
theorem Y_get (h : Y m e w base ok v xs) (x : κ) (hx : m.okK x) : (Instr.lookup m.t v (m.encK x) false).run m.P w = .ok (m.encE (mget m.zE xs x)) w := by
  obtain ⟨b, D, rfl, h2, h3, h4, h5⟩ := h
  obtain ⟨v, ps, hrun, hv⟩ := h4.lookup m.law m.ut (m.zero w) (m.elem _ m.okz) (m.key x hx)
  obtain ⟨y, rfl, hz, _⟩ := m.einv _ _ hv
  simp only [Prod.mk.injEq] at hz
  have := m.einj _ _ ((h5.1 x hx).1.symm.trans hz.1)
  rw [hrun, this]
end
section
variable {κ ε : Type} [DecidableEq κ] {m : MK κ ε} {e : Nat} {base : Nat} {ok : Nat → Prop} {u v : Value} {xs : List (κ × ε)}
variable {P : Program} {ops : Array Oper} {rest : List Oper} {o : Oper} {a : Act} {Q : Exit → Act → World → Prop} {W : World}
theorem Y_make (m : MK κ ε) (t : Nat) (hP : P = m.P) (hgd : o.guard = none) (ho : o.op = .makeMap t none)
    (h : ∀ v1 w1, Y m t w1 W.heap.size (fun _ => True) v1 [] → Below W.heap.size W w1 → wpList P ops Q rest (a.put o.dst v1) w1) : wpList P ops Q (o :: rest) a W := by
  subst hP
  refine wpList_plain hgd fun K hK => ?_
  unfold Oper.wp
  have hrun : (execOp a.eval o).run m.P W = .ok (.value (.map (some W.heap.size))) (W.alloc (.map #[] 0)) := by
    simp [execOp, ho, @run_makeMap m.P, Result.andThen]
  rw [hrun]
  refine hK _ _ (h _ _ ⟨W.heap.size, _, rfl, trivial, Nat.le_refl _, World.ownsMap_made W _ _ _, YK_nil _⟩ (below_alloc (Below.refl _ _) _))
theorem gate_mupd {t : TypeId} {p x y : Operand} (_ho : o.op = .mapUpdate t p x y) (h : wpList P ops Q (o :: rest) a W) : wpList P ops Q (o :: rest) a W := h
theorem Y_put (m : MK κ ε) {t : Nat} (hP : P = m.P) (hgd : o.guard = none) (p x y : Operand) (ho : o.op = .mapUpdate m.t p x y) (hN : o.dst = none)
    (v : Value) (xs : List (κ × ε)) (key : κ) (val : ε) (hv : a.eval p = v) (hx : a.eval x = m.encK key) (hy : a.eval y = m.encE val)
    (hO : Y m t W base ok v xs) (hk : m.okK key) (he : m.okE val) (hl : xs.length < 140737488355328)
    (h : ∀ w1, Y m t w1 base ok v ((key, val) :: xs) → W.grownBy w1 (mapBlock v) → wpList P ops Q rest a w1) : wpList P ops Q (o :: rest) a W := by
  subst hP
  obtain ⟨b, D, rfl, h2, h3, h4, h5⟩ := hO
  refine wpList_mapUpdate_own _ hgd p x y m.t ho m.k m.e m.law m.ut _ b xs.length D hv h4 (by simp only [maxLen]; omega) _ _ _ hx hy (m.key key hk) _ [] (m.elem val he) ?_
  intro w1 g1 g2
  rw [hN]
  exact h w1 ⟨b, _, rfl, h2, h3, g1, YK_put h5 h4.isMap key val hk⟩ g2
end
end Kd
theorem wf64 {x : Int} (h1 : -9223372036854775808 ≤ x) (h2 : x ≤ 9223372036854775807) : (Lit.int .i64 x).wf = true := Go.WalkArith.wf_i64 ⟨h1, h2⟩
def okI (x : Int) : Prop := -9223372036854775808 ≤ x ∧ x ≤ 9223372036854775807
def okS (x : ByteArray) : Prop := x.size ≤ 9223372036854775807
def okT {α : Type} (_ : α) : Prop := True
def litS (x : ByteArray) : Lit := .string x.data.toList
theorem litS_inj (x y : ByteArray) (h : litS x = litS y) : x = y := by
  unfold litS at h
  injection h with h
  cases x; cases y
  simp only [ByteArray.mk.injEq]
  exact Array.toList_inj.1 h
theorem elem_bool_inv {P : Program} {e : Nat} (he : P.underlying e = some .bool) (v : Value) (z : DataW Unit × List MemPlace) (h : plainElem P e v = some z) : ∃ x : Bool, v = .bool x ∧ z = (.lit (.bool x), []) ∧ okT x := by
  unfold plainElem at h
  rw [he] at h
  cases v <;> simp at h
  exact ⟨_, rfl, h.symm, trivial⟩
theorem elem_int_inv {P : Program} {e : Nat} (he : P.underlying e = some (.int .i64)) (v : Value) (z : DataW Unit × List MemPlace) (h : plainElem P e v = some z) : ∃ x : Int, v = .int .i64 x ∧ z = (.lit (.int .i64 x), []) ∧ okI x := by
  obtain ⟨a, rfl, hz, hw⟩ := plainElem_int_inv he h
  exact ⟨a, rfl, hz, by have h2 := hw; simp only [Lit.wf, Bool.and_eq_true, decide_eq_true_eq] at h2; exact h2⟩
def mkSB (P : Program) (t k e : Nat) (ut : P.underlying t = some (.map k e)) (uk : P.underlying k = some .string) (ue : P.underlying e = some .bool) (hz : ∀ w, (zeroValue e).run P w = .ok (.bool false) w) : MK ByteArray Bool where
  P := P
  t := t
  k := k
  e := e
  law := Maps.string_keyed uk
  ut := ut
  encK := Value.string
  litK := litS
  okK := okS
  key := fun x hx => Go.WideMaps.keyOf_string_mk uk (by simpa [maxLen, okS] using hx)
  inj := fun x y _ _ h => litS_inj x y h
  isk := fun x => trivial
  encE := Value.bool
  datE := fun x => .lit (.bool x)
  okE := okT
  zE := false
  okz := trivial
  elem := fun x _ => plainElem_bool ue x
  einv := elem_bool_inv ue
  einj := fun x y h => by injection h with h; injection h
  zero := hz
def mkSI (P : Program) (t k e : Nat) (ut : P.underlying t = some (.map k e)) (uk : P.underlying k = some .string) (ue : P.underlying e = some (.int .i64)) (hz : ∀ w, (zeroValue e).run P w = .ok (.int .i64 0) w) : MK ByteArray Int where
  P := P
  t := t
  k := k
  e := e
  law := Maps.string_keyed uk
  ut := ut
  encK := Value.string
  litK := litS
  okK := okS
  key := fun x hx => Go.WideMaps.keyOf_string_mk uk (by simpa [maxLen, okS] using hx)
  inj := fun x y _ _ h => litS_inj x y h
  isk := fun x => trivial
  encE := Value.int .i64
  datE := fun x => .lit (.int .i64 x)
  okE := okI
  zE := 0
  okz := by unfold okI; omega
  elem := fun x hx => plainElem_int ue (wf64 hx.1 hx.2)
  einv := elem_int_inv ue
  einj := fun x y h => by injection h with h; injection h
  zero := hz
def mkIB (P : Program) (t k e : Nat) (ut : P.underlying t = some (.map k e)) (uk : P.underlying k = some (.int .i64)) (ue : P.underlying e = some .bool) (hz : ∀ w, (zeroValue e).run P w = .ok (.bool false) w) : MK Int Bool where
  P := P
  t := t
  k := k
  e := e
  law := Maps.int_keyed uk
  ut := ut
  encK := Value.int .i64
  litK := Lit.int .i64
  okK := okI
  key := fun x hx => Maps.keyOf_int_mk uk (wf64 hx.1 hx.2)
  inj := fun x y _ _ h => by injection h
  isk := fun x => trivial
  encE := Value.bool
  datE := fun x => .lit (.bool x)
  okE := okT
  zE := false
  okz := trivial
  elem := fun x _ => plainElem_bool ue x
  einv := elem_bool_inv ue
  einj := fun x y h => by injection h with h; injection h
  zero := hz
def mkII (P : Program) (t k e : Nat) (ut : P.underlying t = some (.map k e)) (uk : P.underlying k = some (.int .i64)) (ue : P.underlying e = some (.int .i64)) (hz : ∀ w, (zeroValue e).run P w = .ok (.int .i64 0) w) : MK Int Int where
  P := P
  t := t
  k := k
  e := e
  law := Maps.int_keyed uk
  ut := ut
  encK := Value.int .i64
  litK := Lit.int .i64
  okK := okI
  key := fun x hx => Maps.keyOf_int_mk uk (wf64 hx.1 hx.2)
  inj := fun x y _ _ h => by injection h
  isk := fun x => trivial
  encE := Value.int .i64
  datE := fun x => .lit (.int .i64 x)
  okE := okI
  zE := 0
  okz := by unfold okI; omega
  elem := fun x hx => plainElem_int ue (wf64 hx.1 hx.2)
  einv := elem_int_inv ue
  einj := fun x y h => by injection h with h; injection h
  zero := hz
def okPI (x : Int × Int) : Prop := okI x.1 ∧ okI x.2
def encPI (x : Int × Int) : Value := .agg #[.int .i64 x.1, .int .i64 x.2]
def litPI (P : Program) (k : Nat) (x : Int × Int) : Lit := (keyOf P k (encPI x)).getD (.bool false)
def mkPI (P : Program) (t k e q : Nat) (ut : P.underlying t = some (.map k e)) (A : Go.WideMaps.ArrKey P k q 2) (uq : P.underlying q = some (.int .i64)) (hsz : ∃ m, P.types.size = m + 1) (K : Keyed P k) (ue : P.underlying e = some (.int .i64)) (hz : ∀ w, (zeroValue e).run P w = .ok (.int .i64 0) w) : MK (Int × Int) Int where
  P := P
  t := t
  k := k
  e := e
  law := K
  ut := ut
  encK := encPI
  litK := litPI P k
  okK := okPI
  key := fun x hx => by
    have h := Go.WideMaps.keyOf_pair A uq hsz (wf64 hx.1.1 hx.1.2) (wf64 hx.2.1 hx.2.2)
    unfold litPI encPI
    rw [h]
    rfl
  inj := fun x y hx hy h => by
    have h1 := Go.WideMaps.keyOf_pair A uq hsz (wf64 hx.1.1 hx.1.2) (wf64 hx.2.1 hx.2.2)
    have h2 := Go.WideMaps.keyOf_pair A uq hsz (wf64 hy.1.1 hy.1.2) (wf64 hy.2.1 hy.2.2)
    have h3 : litPI P k x = litPI P k y := h
    unfold litPI encPI at h3
    rw [h1, h2] at h3
    simp only [Option.getD_some] at h3
    rw [← h3] at h2
    have h4 := K.inj h1 h2
    simp only [Value.agg.injEq, Array.mk.injEq, List.cons.injEq, Value.int.injEq, true_and, and_true] at h4
    exact Prod.ext h4.1 h4.2
  isk := fun x => by
    unfold litPI
    cases h : keyOf P k (encPI x) with
    | none => exact trivial
    | some l => exact K.key h
  encE := Value.int .i64
  datE := fun x => .lit (.int .i64 x)
  okE := okI
  zE := 0
  okz := by unfold okI; omega
  elem := fun x hx => plainElem_int ue (wf64 hx.1 hx.2)
  einv := elem_int_inv ue
  einj := fun x y h => by injection h with h; injection h
  zero := hz
section
variable {κ ε : Type} [DecidableEq κ] {m : MK κ ε} {P : Program} {ops : Array Oper} {rest : List Oper} {o : Oper} {a : Act} {Q : Exit → Act → World → Prop} {W : World}
end
section
variable {κ : Type} [DecidableEq κ] {m : MK κ Int} {w : World} {v : Value} {xs : List (κ × Int)} {r : Nat} {left : Lit → Bool} {cnt : Nat}
end
end Go.Proofs.Ytfkakbpjddgmeaa.MapWords

