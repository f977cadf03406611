/- A logic of values for walks: parts 1 to 4. -/
import Derived.Orders
import Derived.Tactics
import Derived.Deep.LoopGhost
import Derived.Below
import Derived.Laws.Cells
import Derived.Laws.IdiomCopy
import Derived.Laws.BytesArg
import Derived.MapKept
namespace Go.VL
set_option linter.unusedVariables false
set_option linter.unusedSimpArgs false

/-- Frozen data, one cell each. 'sl g es': a slice; g: its block; es: its elements, each by its cells. -/
inductive T where
  | int (k : IntKind) (n : Int)
  | bool (b : Bool)
  | str (s : ByteArray)
  | sl (g : Nat) (es : List (List T))
instance : Inhabited T := ⟨.bool false⟩

/-- Values of slots. own: a slice into object r; ptr: a pointer to cell j of element i of object r; fz: a pointer into a frozen element. -/
inductive V where
  | t (x : T)
  | nil0
  | own (r ver off len : Nat)
  | ptr (r ver i j : Nat)
  | fz (e : List T) (j : Nat)
  | fn (f : FuncId) (caps : List V)
  | map (r : Nat)
  | err (b : Bool)
  | agg (cs : List V)
  | tup (vs : List V)
  | undef
  | skip
instance : Inhabited V := ⟨.undef⟩

/-- Objects of one's own: a variable or a row of elements (g: its block, ver: how often it was appended to, sz: cells an element, n: cells of the block); a map. -/
inductive Ob where
  | row (g ver sz n : Nat) (es : List (List V))
  | map (g : Nat) (es : List (T × V))
instance : Inhabited Ob := ⟨.map 0 []⟩
def Ob.g : Ob → Nat | .row g .. => g | .map g _ => g

/-- What one's own objects may become: later versions of themselves. -/
def Ob.le : Ob → Ob → Prop
  | .row g ver sz n es, .row g' ver' sz' n' es' => ver ≤ ver' ∧ (ver = ver' → g' = g ∧ sz' = sz ∧ n' = n ∧ es'.length = es.length)
  | .map g _, .map g' _ => g' = g
  | _, _ => False
theorem Ob.le_refl (o : Ob) : o.le o := by cases o <;> simp [Ob.le]
theorem Ob.le_trans {a b c : Ob} (h : a.le b) (k : b.le c) : a.le c := by
  cases a <;> cases b <;> cases c <;> simp only [Ob.le] at * <;> try contradiction
  · obtain ⟨h1, h2⟩ := h
    obtain ⟨k1, k2⟩ := k
    refine ⟨by omega, fun e => ?_⟩
    obtain ⟨rfl, rfl, rfl, e1⟩ := h2 (by omega)
    obtain ⟨rfl, rfl, rfl, e2⟩ := k2 (by omega)
    exact ⟨rfl, rfl, rfl, by omega⟩
  · omega

mutual
def V.ren (ρ : Nat → Option Nat) : V → V
  | .own r ver off len => match ρ r with | some r' => .own r' ver off len | none => .undef
  | .ptr r ver i j => match ρ r with | some r' => .ptr r' ver i j | none => .undef
  | .map r => match ρ r with | some r' => .map r' | none => .undef
  | .fn f caps => .fn f (V.renL ρ caps)
  | .agg cs => .agg (V.renL ρ cs)
  | .tup vs => .tup (V.renL ρ vs)
  | .t x => .t x
  | .nil0 => .nil0
  | .fz e j => .fz e j
  | .err b => .err b
  | .undef => .undef
  | .skip => .skip
def V.renL (ρ : Nat → Option Nat) : List V → List V
  | [] => []
  | v :: l => V.ren ρ v :: V.renL ρ l
end
theorem V.renL_eq (ρ : Nat → Option Nat) (l : List V) : V.renL ρ l = l.map (V.ren ρ) := by
  induction l with
  | nil => rfl
  | cons v l ih => rw [V.renL, ih]; rfl
mutual
theorem V.ren_id : ∀ v : V, V.ren some v = v
  | .own .. => rfl
  | .ptr .. => rfl
  | .map _ => rfl
  | .fn f caps => by rw [V.ren, V.renL_id caps]
  | .agg cs => by rw [V.ren, V.renL_id cs]
  | .tup vs => by rw [V.ren, V.renL_id vs]
  | .t _ => rfl
  | .nil0 => rfl
  | .fz .. => rfl
  | .err _ => rfl
  | .undef => rfl
  | .skip => rfl
theorem V.renL_id : ∀ l : List V, V.renL some l = l
  | [] => rfl
  | v :: l => by rw [V.renL, V.ren_id v, V.renL_id l]
end

/-- The blocks that frozen data keep clear of: X's and those of one's own objects. -/
def AV (X : Nat → Prop) (σ : List Ob) (b : Nat) : Prop := X b ∨ ∃ (r : Nat) (o : Ob), σ[r]? = some o ∧ o.g = b

inductive FR (w : World) (av : Nat → Prop) : T → Value → Prop
  | int (k : IntKind) (n : Int) : FR w av (.int k n) (.int k n)
  | bool (b : Bool) : FR w av (.bool b) (.bool b)
  | str (s : ByteArray) : FR w av (.str s) (.string s)
  | nil (g : Nat) (a : Option Addr) (c : Nat) : FR w av (.sl g []) (.slice a 0 c)
  | sl (g : Nat) (es : List (List T)) (off c sz : Nat) (cell : Nat → Nat → Value) (hc : es.length ≤ c) (hg : g < w.heap.size) (ha : ¬ av g) (hl : ∀ (i : Nat) (e : List T), es[i]? = some e → e.length = sz)
      (hcell : ∀ (i j : Nat) (e : List T) (t : T), es[i]? = some e → e[j]? = some t → w.cell? ⟨g, off + i * sz + j, none⟩ = some (cell i j))
      (hr : ∀ (i j : Nat) (e : List T) (t : T), es[i]? = some e → e[j]? = some t → FR w av t (cell i j)) : FR w av (.sl g es) (.slice (some ⟨g, off, none⟩) es.length c)

theorem cell?_congr {w w' : World} {a : Addr} (h : w'.heap[a.block]? = w.heap[a.block]?) : w'.cell? a = w.cell? a := by
  unfold World.cell?; rw [h]

theorem FR.mono {w w' : World} {av av' : Nat → Prop} {x : T} {v : Value} (h : FR w av x v) (hs : w.heap.size ≤ w'.heap.size)
    (hw : ∀ b, ¬ av b → b < w.heap.size → w'.heap[b]? = w.heap[b]?) (ha : ∀ b, ¬ av b → b < w.heap.size → ¬ av' b) : FR w' av' x v := by
  induction h with
  | int => exact .int _ _
  | bool => exact .bool _
  | str => exact .str _
  | nil => exact .nil _ _ _
  | sl g es off c sz cell hc hg h1 hl hcell hr ih =>
    exact .sl g es off c sz cell hc (Nat.lt_of_lt_of_le hg hs) (ha g h1 hg) hl
      (fun i j e t he ht => by rw [cell?_congr (hw g h1 hg)]; exact hcell i j e t he ht) ih

/-- A key of a map as a machine's value. -/
def T.plain : T → Option Value
  | .int k n => some (.int k n)
  | .bool b => some (.bool b)
  | .str s => some (.string s)
  | .sl .. => none

inductive VR (w : World) (X : Nat → Prop) (σ : List Ob) : V → Value → Prop
  | t {x : T} {v : Value} (h : FR w (AV X σ) x v) : VR w X σ (.t x) v
  | nil0 (a : Option Addr) : VR w X σ .nil0 (.slice a 0 0)
  | own {r ver off len g ver' sz n : Nat} {es : List (List V)} {v : Value} (h : σ[r]? = some (.row g ver' sz n es)) (hv : ver ≤ ver') (h1 : v.oneCell' = true)
      (hp : ver = ver' → ∃ c, v = .slice (some ⟨g, off * sz, none⟩) len c ∧ len ≤ c ∧ (off + c) * sz ≤ n ∧ off + len ≤ es.length) : VR w X σ (.own r ver off len) v
  | ptr {r ver i j g ver' sz n : Nat} {es : List (List V)} {v : Value} (h : σ[r]? = some (.row g ver' sz n es)) (hv : ver ≤ ver') (h1 : v.oneCell' = true)
      (hp : ver = ver' → v = .pointer (some ⟨g, i * sz + j, none⟩)) : VR w X σ (.ptr r ver i j) v
  | fz {e : List T} {j b off : Nat} {cell : Nat → Value} (hb : b < w.heap.size) (ha : ¬ AV X σ b) (hc : ∀ (k : Nat) (t : T), e[k]? = some t → w.cell? ⟨b, off + k, none⟩ = some (cell k))
      (hr : ∀ (k : Nat) (t : T), e[k]? = some t → FR w (AV X σ) t (cell k)) : VR w X σ (.fz e j) (.pointer (some ⟨b, off + j, none⟩))
  | fn {f : FuncId} {caps : List V} {vs : Array Value} (hl : vs.size = caps.length) (hr : ∀ (i : Nat) (c : V), caps[i]? = some c → VR w X σ c (vs.getD i undef)) : VR w X σ (.fn f caps) (.func (.func f) #[] vs)
  | map {r g : Nat} {es : List (T × V)} (h : σ[r]? = some (.map g es)) : VR w X σ (.map r) (.map (some g))
  | errN : VR w X σ (.err false) .nilIface
  | errS (t : TypeId) (v : Value) : VR w X σ (.err true) (.iface t v)
  | agg {cs : List V} {vs : Array Value} (hl : vs.size = cs.length) (hr : ∀ (i : Nat) (c : V), cs[i]? = some c → VR w X σ c (vs.getD i undef)) : VR w X σ (.agg cs) (.agg vs)
  | tup {cs : List V} {vs : Array Value} (hl : vs.size = cs.length) (hr : ∀ (i : Nat) (c : V), cs[i]? = some c → VR w X σ c (vs.getD i undef)) : VR w X σ (.tup cs) (.tuple vs)
  | undef (v : Value) : VR w X σ .undef v
  | skip : VR w X σ .skip undef

theorem VR.mono {w w' : World} {X X' : Nat → Prop} {σ σ' : List Ob} {v : V} {x : Value} (ρ : Nat → Option Nat) (h : VR w X σ v x) (hs : w.heap.size ≤ w'.heap.size)
    (hσ : ∀ (r : Nat) (o : Ob), σ[r]? = some o → ∀ r', ρ r = some r' → ∃ o' : Ob, σ'[r']? = some o' ∧ o.le o')
    (hw : ∀ b, ¬ AV X σ b → b < w.heap.size → w'.heap[b]? = w.heap[b]?) (ha : ∀ b, ¬ AV X σ b → b < w.heap.size → ¬ AV X' σ' b) : VR w' X' σ' (v.ren ρ) x := by
  induction h with
  | t h => exact .t (h.mono hs hw ha)
  | nil0 a => exact .nil0 a
  | @own r ver off len g ver' sz n es v h hv h1c hp =>
    simp only [V.ren]
    cases hr : ρ r with
    | none => exact .undef _
    | some r' =>
      obtain ⟨o', ho', hle⟩ := hσ r _ h r' hr
      cases o' with
      | map g es => exact hle.elim
      | row g2 v2 s2 n2 es2 =>
        refine .own ho' (Nat.le_trans hv hle.1) h1c (fun e => ?_)
        obtain ⟨rfl, rfl, rfl, e4⟩ := hle.2 (by have := hle.1; omega)
        obtain ⟨c, h1, h2, h3, h4⟩ := hp (by have := hle.1; omega)
        exact ⟨c, h1, h2, h3, by omega⟩
  | @ptr r ver i j g ver' sz n es v h hv h1c hp =>
    simp only [V.ren]
    cases hr : ρ r with
    | none => exact .undef _
    | some r' =>
      obtain ⟨o', ho', hle⟩ := hσ r _ h r' hr
      cases o' with
      | map g es => exact hle.elim
      | row g2 v2 s2 n2 es2 =>
        refine .ptr ho' (Nat.le_trans hv hle.1) h1c (fun e => ?_)
        obtain ⟨rfl, rfl, rfl, e4⟩ := hle.2 (by have := hle.1; omega)
        exact hp (by have := hle.1; omega)
  | @fz e j b off cell hb hav hc hr =>
    exact .fz (Nat.lt_of_lt_of_le hb hs) (ha b hav hb) (fun k t ht => by rw [cell?_congr (hw b hav hb)]; exact hc k t ht) (fun k t ht => (hr k t ht).mono hs hw ha)
  | @fn f caps vs hl hr ih =>
    rw [V.ren, V.renL_eq]
    refine .fn (by simpa using hl) (fun i c hc => ?_)
    rw [List.getElem?_map] at hc
    obtain ⟨c0, h0, rfl⟩ := Option.map_eq_some_iff.1 hc
    exact ih i c0 h0
  | @map r g es h =>
    simp only [V.ren]
    cases hr : ρ r with
    | none => exact .undef _
    | some r' =>
      obtain ⟨o', ho', hle⟩ := hσ r _ h r' hr
      cases o' with
      | row g2 v2 s2 n2 es2 => exact hle.elim
      | map g2 es2 =>
        have : g2 = g := hle
        subst this
        exact .map ho'
  | errN => exact .errN
  | errS t v => exact .errS t v
  | @agg cs vs hl hr ih =>
    rw [V.ren, V.renL_eq]
    refine .agg (by simpa using hl) (fun i c hc => ?_)
    rw [List.getElem?_map] at hc
    obtain ⟨c0, h0, rfl⟩ := Option.map_eq_some_iff.1 hc
    exact ih i c0 h0
  | @tup cs vs hl hr ih =>
    rw [V.ren, V.renL_eq]
    refine .tup (by simpa using hl) (fun i c hc => ?_)
    rw [List.getElem?_map] at hc
    obtain ⟨c0, h0, rfl⟩ := Option.map_eq_some_iff.1 hc
    exact ih i c0 h0
  | undef v => exact .undef v
  | skip => exact .skip

/-- One's own object as the world holds it. -/
def OR (w : World) (X : Nat → Prop) (σ : List Ob) : Ob → Prop
  | .row g _ sz n es => ∃ cs et, w.heap[g]? = some (.cells cs et (0, 0)) ∧ cs.size = n ∧ es.length * sz ≤ n ∧
      ∀ (i : Nat) (e : List V), es[i]? = some e → e.length = sz ∧ ∀ (j : Nat) (c : V), e[j]? = some c → VR w X σ c (cs.getD (i * sz + j) undef)
  | .map g es => ∃ ents clock, w.heap[g]? = some (.map ents clock) ∧ ents.size = es.length ∧
      ∀ (i : Nat) (k : T) (x : V), es[i]? = some (k, x) → ∃ e : MapEntry, ents[i]? = some e ∧ k.plain = some e.key ∧ VR w X σ x e.val

def Ob.ren (ρ : Nat → Option Nat) : Ob → Ob
  | .row g ver sz n es => .row g ver sz n (es.map (·.map (V.ren ρ)))
  | .map g es => .map g (es.map fun p => (p.1, p.2.ren ρ))
theorem Ob.ren_g (ρ : Nat → Option Nat) (o : Ob) : (o.ren ρ).g = o.g := by cases o <;> rfl
theorem Ob.ren_id (o : Ob) : o.ren some = o := by
  have h : V.ren some = id := funext V.ren_id
  cases o <;> simp [Ob.ren, h]

theorem OR.mono {w w' : World} {X X' : Nat → Prop} {σ σ' : List Ob} {o : Ob} (ρ : Nat → Option Nat) (h : OR w X σ o) (hs : w.heap.size ≤ w'.heap.size)
    (hb : w'.heap[o.g]? = w.heap[o.g]?)
    (hσ : ∀ (r : Nat) (o : Ob), σ[r]? = some o → ∀ r', ρ r = some r' → ∃ o' : Ob, σ'[r']? = some o' ∧ o.le o')
    (hw : ∀ b, ¬ AV X σ b → b < w.heap.size → w'.heap[b]? = w.heap[b]?) (ha : ∀ b, ¬ AV X σ b → b < w.heap.size → ¬ AV X' σ' b) : OR w' X' σ' (o.ren ρ) := by
  cases o with
  | row g ver sz n es =>
    obtain ⟨cs, et, h1, h2, h3, h4⟩ := h
    refine ⟨cs, et, by rw [← h1]; exact hb, h2, by simpa using h3, fun i e he => ?_⟩
    rw [List.getElem?_map] at he
    obtain ⟨e0, he0, rfl⟩ := Option.map_eq_some_iff.1 he
    obtain ⟨h5, h6⟩ := h4 i e0 he0
    refine ⟨by simpa using h5, fun j c hc => ?_⟩
    rw [List.getElem?_map] at hc
    obtain ⟨c0, hc0, rfl⟩ := Option.map_eq_some_iff.1 hc
    exact (h6 j c0 hc0).mono ρ hs hσ hw ha
  | map g es =>
    obtain ⟨ents, clock, h1, h2, h3⟩ := h
    refine ⟨ents, clock, by rw [← h1]; exact hb, by simpa using h2, fun i k x hx => ?_⟩
    rw [List.getElem?_map] at hx
    obtain ⟨⟨k0, x0⟩, hx0, he⟩ := Option.map_eq_some_iff.1 hx
    obtain ⟨rfl, rfl⟩ := Prod.mk.inj he
    obtain ⟨e, h4, h5, h6⟩ := h3 i k0 x0 hx0
    exact ⟨e, h4, h5, h6.mono ρ hs hσ hw ha⟩

/-- A state: slots, one's own objects, a number below which all blocks met so far lie. -/
structure St where
  env : Nat → V
  σ : List Ob
  h : Nat

def upd (e : Nat → V) (d : Nat) (v : V) : Nat → V := fun t => if t = d then v else e t
def St.put (s : St) (d : Option Tmp) (v : V) : St := match d with | some d => { s with env := upd s.env d v } | none => s

/-- All that holds of one's own objects together. -/
structure Heap (w : World) (X : Nat → Prop) (σ : List Ob) : Prop where
  obj : ∀ (r : Nat) (o : Ob), σ[r]? = some o → OR w X σ o
  nd : ∀ (r r' : Nat) (o o' : Ob), σ[r]? = some o → σ[r']? = some o' → o.g = o'.g → r = r'
  nx : ∀ (r : Nat) (o : Ob), σ[r]? = some o → ¬ X o.g

/-- What a stretch of a run leaves alone: everything old that is not in 'av'. -/
structure Fr (w0 : World) (av : Nat → Prop) (w : World) : Prop where
  os : w.os = w0.os
  tape : w.tape = w0.tape
  output : w.output = w0.output
  size : w0.heap.size ≤ w.heap.size
  block : ∀ b, b < w0.heap.size → ¬ av b → w.heap[b]? = w0.heap[b]?
theorem Fr.refl (w : World) (av : Nat → Prop) : Fr w av w := ⟨rfl, rfl, rfl, Nat.le_refl _, fun _ _ _ => rfl⟩

/-- A state that stands for a frame and a world, in a call that began in w0 with the objects' blocks av0. -/
structure Inv (w0 : World) (av0 X : Nat → Prop) (N : Nat) (a : Act) (w : World) (s : St) : Prop where
  hp : Heap w X s.σ
  env : ∀ t, VR w X s.σ (s.env t) (a.tmps.getD t undef)
  h : s.h ≤ w.heap.size
  h0 : w0.heap.size ≤ s.h
  fr : Fr w0 av0 w
  own : ∀ (r : Nat) (o : Ob), s.σ[r]? = some o → av0 o.g ∨ w0.heap.size ≤ o.g
  defers : a.defers = []
  sz : a.tmps.size = N

/-- A call that began in w0 with the objects' blocks av0, within a run that began in W0: what was there then is as it was, and nobody's own. -/
def BaseA (W0 w0 : World) (av0 : Nat → Prop) : Prop := Go.RowKit.Below W0.heap.size W0 w0 ∧ ∀ b, av0 b → W0.heap.size ≤ b
def XOk (W0 w : World) (X : Nat → Prop) (σ : List Ob) : Prop := (∀ b, X b → b < w.heap.size) ∧ Go.RowKit.Below W0.heap.size W0 w ∧ ∀ (r : Nat) (o : Ob), σ[r]? = some o → W0.heap.size ≤ o.g
theorem Inv.base {W0 w0 : World} {av0 X : Nat → Prop} {N : Nat} {a : Act} {w : World} {s : St} (hi : Inv w0 av0 X N a w s) (hB : BaseA W0 w0 av0) : Go.RowKit.Below W0.heap.size W0 w ∧ ∀ (r : Nat) (o : Ob), s.σ[r]? = some o → W0.heap.size ≤ o.g := by
  obtain ⟨h1, h2⟩ := hB
  refine ⟨⟨hi.fr.os.trans h1.os, hi.fr.tape.trans h1.tape, hi.fr.output.trans h1.output, Nat.le_trans h1.size hi.fr.size, fun k hk => ?_⟩, fun r o ho => ?_⟩
  · rw [hi.fr.block k (Nat.lt_of_lt_of_le hk h1.size) (fun ha => Nat.lt_irrefl _ (Nat.lt_of_lt_of_le hk (h2 k ha)))]
    exact h1.block k hk
  · rcases hi.own r o ho with h3 | h3
    · exact h2 _ h3
    · exact Nat.le_trans h1.size h3

theorem Heap.lt {w : World} {X : Nat → Prop} {σ : List Ob} (h : Heap w X σ) {r : Nat} {o : Ob} (ho : σ[r]? = some o) : o.g < w.heap.size := by
  have := h.obj r o ho
  cases o with
  | row g ver sz n es =>
    obtain ⟨cs, et, h1, _⟩ := this
    exact (Array.getElem?_eq_some_iff.1 h1).1
  | map g es =>
    obtain ⟨cs, et, h1, _⟩ := this
    exact (Array.getElem?_eq_some_iff.1 h1).1
end Go.VL
namespace Go.VL
set_option linter.unusedVariables false
set_option linter.unusedSimpArgs false

section
variable (P : Program)
def tAgg (t : TypeId) : Option Bool := match P.underlying t with
  | some (.struct _) => some true
  | some (.array _ _) => some true
  | some _ => some false
  | none => none
def tSize (t : TypeId) : Option Nat := (P.info? t).map (·.size)
def tElem (t : TypeId) : Option TypeId := match P.underlying t with | some (.slice e) => some e | _ => none
/-- A struct's field: where it begins, its type (none where it takes no cell). -/
def tField (t f : Nat) : Option (Nat × TypeId) := match P.underlying t with
  | some (.struct fs) => match fs[f]? with
    | some x => match tSize P x.type with | some (n + 1) => some (x.offset, x.type) | _ => none
    | none => none
  | _ => none
def tStr (t : TypeId) : Bool := match P.underlying t with | some .string => true | _ => false
def tBool (t : TypeId) : Bool := match P.underlying t with | some .bool => true | _ => false
def tIface (t : TypeId) : Bool := match P.underlying t with | some (.interface _) => true | _ => false
def tInt (t : TypeId) : Option IntKind := match P.underlying t with | some (.int k) => some k | _ => none
end

def V.ofLeaf : Value → V
  | .bool b => .t (.bool b)
  | .int k n => .t (.int k n)
  | .string s => .t (.str s)
  | .slice none 0 0 => .nil0
  | .nilIface => .err false
  | _ => .undef
def V.ofConst : Value → V
  | .agg cs => .agg (cs.toList.map V.ofLeaf)
  | v => V.ofLeaf v
def tZero (P : Program) (t : TypeId) : Option (List V) := match P.info? t with
  | some i => match i.zero with | some z => some (z.cells.toList.map V.ofLeaf) | none => none
  | none => none

theorem VR.ofLeaf (w : World) (X : Nat → Prop) (σ : List Ob) (v : Value) : VR w X σ (V.ofLeaf v) v := by
  unfold V.ofLeaf
  split
  · exact .t (.bool _)
  · exact .t (.int _ _)
  · exact .t (.str _)
  · exact .nil0 _
  · exact .errN
  · exact .undef _
theorem VR.ofConst (w : World) (X : Nat → Prop) (σ : List Ob) (v : Value) : VR w X σ (V.ofConst v) v := by
  unfold V.ofConst
  split
  · rename_i cs
    refine .agg (by simp) (fun i c hc => ?_)
    rw [List.getElem?_map] at hc
    obtain ⟨c0, h0, rfl⟩ := Option.map_eq_some_iff.1 hc
    have : cs.getD i Go.undef = c0 := by simp [Array.getElem?_toList] at h0; simp [h0]
    rw [this]
    exact VR.ofLeaf _ _ _ _
  · exact VR.ofLeaf _ _ _ _

def St.eval (s : St) : Operand → V
  | .tmp t => s.env t
  | .const v => V.ofConst v
  | .func f => .fn f []
  | .global _ => .undef

theorem Inv.eval {w0 : World} {av0 X : Nat → Prop} {N : Nat} {a : Act} {w : World} {s : St} (hi : Inv w0 av0 X N a w s) (x : Operand) : VR w X s.σ (s.eval x) (a.eval x) := by
  cases x with
  | tmp t => exact hi.env t
  | const v => exact VR.ofConst _ _ _ _
  | global g => exact .undef _
  | func f => exact .fn (by simp) (fun i c hc => by simp at hc)

/-- The cells of an element or a variable, from a pointer on. -/
def St.cells (s : St) (p : V) (n : Nat) : Option (List V) := match p with
  | .fz e j => if j + n ≤ e.length then some (((e.drop j).take n).map V.t) else none
  | .ptr r ver i j => match s.σ[r]? with
    | some (.row _ v _ _ es) => if ver = v then match es[i]? with
        | some e => if j + n ≤ e.length then some ((e.drop j).take n) else none
        | none => none
      else none
    | _ => none
  | _ => none

theorem addr_add (b o n : Nat) : (⟨b, o, none⟩ : Addr).add n = ⟨b, o + n, none⟩ := by unfold Addr.add; split <;> simp_all

theorem cell_of_cells {w : World} {g k : Nat} {cs : Array Value} {et : TypeId} {fr : Nat × Nat} (h : w.heap[g]? = some (.cells cs et fr)) : w.cell? ⟨g, k, none⟩ = cs[k]? := by
  simp [World.cell?, h]

/-- Where a pointer's cells lie. -/
theorem Inv.cells {w0 : World} {av0 X : Nat → Prop} {N : Nat} {a : Act} {w : World} {s : St} (hi : Inv w0 av0 X N a w s) {p : V} {n : Nat} {l : List V} {v : Value}
    (h : s.cells p n = some l) (hp : VR w X s.σ p v) : ∃ (b o : Nat) (vs : List Value), v = .pointer (some ⟨b, o, none⟩) ∧ l.length = n ∧ vs.length = n ∧ (∀ (j : Nat) (u : Value), vs[j]? = some u → w.cell? ⟨b, o + j, none⟩ = some u) ∧
      ∀ (j : Nat) (c : V), l[j]? = some c → VR w X s.σ c (vs.getD j Go.undef) := by
  unfold St.cells at h
  split at h
  · rename_i e j
    split at h
    · rename_i hle
      simp only [Option.some.injEq] at h
      subst h
      cases hp with
      | @fz _ _ b off cell hb ha hc hr =>
        refine ⟨b, off + j, (List.range n).map fun k => cell (j + k), rfl, by simp; omega, by simp, fun k u hk => ?_, fun k c hk => ?_⟩
        · rw [List.getElem?_map] at hk
          obtain ⟨k0, h0, rfl⟩ := Option.map_eq_some_iff.1 hk
          obtain ⟨hk1, hk2⟩ := List.getElem?_eq_some_iff.1 h0
          simp at hk1 hk2
          subst hk2
          have : j + k < e.length := by omega
          rw [Nat.add_assoc]
          exact hc (j + k) e[j + k] (List.getElem?_eq_getElem this)
        · rw [List.getElem?_map] at hk
          obtain ⟨t, ht, rfl⟩ := Option.map_eq_some_iff.1 hk
          rw [List.getElem?_take] at ht
          split at ht
          · rename_i hkn
            rw [List.getElem?_drop] at ht
            have := hr (j + k) t ht
            simp [hkn]
            exact .t this
          · cases ht
    · cases h
  · rename_i r ver i j
    split at h
    · rename_i g ver' sz m es hσ
      split at h
      · rename_i hv
        subst hv
        split at h
        · rename_i e he
          split at h
          · rename_i hle
            simp only [Option.some.injEq] at h
            subst h
            cases hp with
            | @ptr _ _ _ _ g2 v2 sz2 n2 es2 _ h2 hv2 h1c hp2 =>
              rw [hσ] at h2
              simp only [Option.some.injEq, Ob.row.injEq] at h2
              obtain ⟨rfl, rfl, rfl, rfl, rfl⟩ := h2
              obtain ⟨cs, et, h3, h4, h5, h6⟩ := hi.hp.obj r _ hσ
              obtain ⟨h7, h8⟩ := h6 i e he
              have hil : i < es.length := (List.getElem?_eq_some_iff.1 he).1
              have hcs : i * sz + sz ≤ cs.size := by rw [h4]; refine Nat.le_trans ?_ h5; rw [← Nat.succ_mul]; exact Nat.mul_le_mul_right _ hil
              refine ⟨g, i * sz + j, (List.range n).map fun k => cs.getD (i * sz + j + k) Go.undef, hp2 rfl, by simp; omega, by simp, fun k u hk => ?_, fun k c hk => ?_⟩
              · rw [List.getElem?_map] at hk
                obtain ⟨k0, h0, rfl⟩ := Option.map_eq_some_iff.1 hk
                obtain ⟨hk1, hk2⟩ := List.getElem?_eq_some_iff.1 h0
                simp at hk1 hk2
                subst hk2
                rw [cell_of_cells h3]
                have : i * sz + j + k < cs.size := by omega
                simp [this]
              · rw [List.getElem?_take] at hk
                split at hk
                · rename_i hkn
                  rw [List.getElem?_drop] at hk
                  have := h8 (j + k) c hk
                  simp only [← Nat.add_assoc] at this
                  simpa [hkn] using this
                · cases hk
          · cases h
        · cases h
      · cases h
    · cases h
  · cases h

theorem run_typeInfo {P : Program} {w : World} {t : TypeId} {i : TypeInfo} (h : P.info? t = some i) : (typeInfo t).run P w = .ok i w := by simp [typeInfo, h]
theorem run_underlying {P : Program} {w : World} {t : TypeId} {d : TypeDesc} (h : P.underlying t = some d) : (underlying t).run P w = .ok d w := by simp [underlying, h]
theorem run_sizeOf {P : Program} {w : World} {t n : Nat} (h : tSize P t = some n) : (sizeOf t).run P w = .ok n w := by
  unfold tSize at h
  obtain ⟨i, hi, rfl⟩ := Option.map_eq_some_iff.1 h
  simp [sizeOf, run_typeInfo hi]
theorem run_isAgg {P : Program} {w : World} {t : TypeId} {b : Bool} (h : tAgg P t = some b) : (isAgg t).run P w = .ok b w := by
  unfold tAgg at h
  cases hu : P.underlying t with
  | none => simp [hu] at h
  | some d =>
    simp only [hu] at h
    cases d <;> simp [isAgg, run_underlying hu] at h ⊢ <;> exact h

/-- A variable's value out of its cells. -/
def V.ofCells (P : Program) (t : TypeId) (l : List V) : Option V := match tAgg P t with
  | some true => some (.agg l)
  | some false => match l with | [v] => some v | _ => none
  | none => none

def loadQ (P : Program) (s : St) (t : TypeId) (p : V) : Option V := match tSize P t, tAgg P t with
  | some n, some true => match s.cells p n with | some l => some (.agg l) | none => none
  | some _, some false => match s.cells p 1 with | some [v] => some v | _ => none
  | _, _ => none

theorem loadQ_sound {P : Program} {w0 : World} {av0 X : Nat → Prop} {N : Nat} {a : Act} {w : World} {s : St} (hi : Inv w0 av0 X N a w s) {t : TypeId} {p v : V} {x : Value}
    (h : loadQ P s t p = some v) (hp : VR w X s.σ p x) : ∃ val, (Instr.loadAt t x).run P w = .ok val w ∧ VR w X s.σ v val := by
  unfold loadQ at h
  split at h
  · rename_i n hn ha
    split at h
    · rename_i l hl
      simp only [Option.some.injEq] at h
      subst h
      obtain ⟨b, o, vs, rfl, h1, h2, h3, h4⟩ := hi.cells hl hp
      have hld := run_loadCells_list (P := P) w ⟨b, o, none⟩ vs (fun j u hu => by rw [addr_add]; exact h3 j u hu)
      refine ⟨.agg vs.toArray, ?_, .agg (by simp; omega) (fun i c hc => by simpa using h4 i c hc)⟩
      rw [h2] at hld
      simp [Instr.loadAt, Instr.sureAddr, loadVar, run_isAgg ha, run_sizeOf hn, hld]
    · cases h
  · rename_i n hn ha
    split at h
    · rename_i v' hl
      simp only [Option.some.injEq] at h
      subst h
      obtain ⟨b, o, vs, rfl, h1, h2, h3, h4⟩ := hi.cells hl hp
      obtain ⟨u, rfl⟩ : ∃ u, vs = [u] := by
        match vs, h2 with
        | [u], _ => exact ⟨u, rfl⟩
      have h0 := h3 0 u rfl
      simp only [Nat.add_zero] at h0
      refine ⟨u, ?_, by simpa using h4 0 v' rfl⟩
      simp [Instr.loadAt, Instr.sureAddr, loadVar, run_isAgg ha, h0]
    · cases h
  · cases h

/-! ### whole numbers, strings, bools -/
def bvBack (k : IntKind) (r : BitVec k.bits) : V := .t (.int k (k.wrap r.toNat))
def opI (op : BinOp) (k : IntKind) (a b : Int) : Option V := match op with
  | .add => some (.t (.int k (k.wrap (a + b))))
  | .sub => some (.t (.int k (k.wrap (a - b))))
  | .mul => some (.t (.int k (k.wrap (a * b))))
  | .quo => if b = 0 then none else some (.t (.int k (k.wrap (a.tdiv b))))
  | .rem => if b = 0 then none else some (.t (.int k (a.tmod b)))
  | .and => some (bvBack k (BitVec.ofInt k.bits a &&& BitVec.ofInt k.bits b))
  | .or => some (bvBack k (BitVec.ofInt k.bits a ||| BitVec.ofInt k.bits b))
  | .xor => some (bvBack k (BitVec.ofInt k.bits a ^^^ BitVec.ofInt k.bits b))
  | .andNot => none
  | .eql => some (.t (.bool (a == b)))
  | .neq => some (.t (.bool (a != b)))
  | .lss => some (.t (.bool (decide (a < b))))
  | .leq => some (.t (.bool (decide (a ≤ b))))
  | .gtr => some (.t (.bool (decide (a > b))))
  | .geq => some (.t (.bool (decide (a ≥ b))))
  | _ => none
def opSh (op : BinOp) (k : IntKind) (a b : Int) : Option V := if b < 0 then none else match op with
  | .shl => some (.t (.int k (k.wrap (a * 2 ^ (min b.toNat k.bits)))))
  | .shr => some (.t (.int k (a.fdiv (2 ^ (min b.toNat k.bits)))))
  | _ => none
def isSh : BinOp → Bool | .shl => true | .shr => true | _ => false
def opStr (op : BinOp) (a b : ByteArray) : Option V := match op with
  | .add => if ((a.size + b.size : Nat) : Int) > IntKind.i64.max then none else some (.t (.str (a ++ b)))
  | .eql => some (.t (.bool (decide (a = b))))
  | .neq => some (.t (.bool (decide (a ≠ b))))
  | _ => none
def opQ (P : Program) (op : BinOp) (t : TypeId) (x y : V) (yc : Bool) : Option V := match x, y with
  | .t (.int k a), .t (.int k' b) => if isSh op then opSh op k a b else if k = k' then opI op k a b else none
  | .t (.str a), .t (.str b) => opStr op a b
  | .t (.bool a), .t (.bool b) => if tBool P t then match op with
      | .eql => some (.t (.bool (a == b)))
      | .neq => some (.t (.bool (!(a == b))))
      | _ => none else none
  | .err b, .err false => if yc && tIface P t then match op with
      | .eql => some (.t (.bool (!b)))
      | .neq => some (.t (.bool b))
      | _ => none else none
  | _, _ => none

theorem bytes_toList (a : ByteArray) : a.toList = a.data.toList := by
  have key : ∀ (n i : Nat) (r : List UInt8), a.size - i = n → ByteArray.toList.loop a i r = r.reverse ++ a.data.toList.drop i := by
    intro n
    induction n with
    | zero =>
      intro i r h
      unfold ByteArray.toList.loop
      have : a.data.size ≤ i := by have : a.size = a.data.size := rfl; omega
      rw [if_neg (by omega), List.drop_of_length_le (by simpa using this)]
      simp
    | succ n ih =>
      intro i r h
      unfold ByteArray.toList.loop
      have hlt : i < a.data.size := by have : a.size = a.data.size := rfl; omega
      rw [if_pos (by omega), ih (i + 1) _ (by omega)]
      have h2 : a.data.toList.drop i = a.data[i] :: a.data.toList.drop (i + 1) := by
        rw [List.drop_eq_getElem_cons (by simpa using hlt)]
        simp
      rw [h2]
      have h3 : a.get! i = a.data[i] := by unfold ByteArray.get!; exact getElem!_pos a.data i hlt
      simp [h3]
  simpa [ByteArray.toList] using key a.size 0 [] (by simp)
theorem bytes_beq (a b : ByteArray) : (a.toList == b.toList) = decide (a = b) := by
  rw [Bool.eq_iff_iff]
  simp only [beq_iff_eq, decide_eq_true_eq, bytes_toList]
  exact ⟨fun h => by cases a; cases b; simp at h; exact congrArg _ h, fun h => by rw [h]⟩

theorem opI_sound {P : Program} {w : World} {op : BinOp} {k : IntKind} {a b : Int} {t : TypeId} {v : V} (hs : isSh op = false) (h : opI op k a b = some v) :
    ∃ x, v = .t x ∧ ∃ y, (binOp op t (.int k a) (.int k b)).run P w = .ok y w ∧ ∀ av, FR w av x y := by
  cases op
  case add => simp only [opI, Option.some.injEq] at h; subst h; exact ⟨_, rfl, .int k (k.wrap (a + b)), by simp [binOp, Op.intArith], fun _ => .int _ _⟩
  case sub => simp only [opI, Option.some.injEq] at h; subst h; exact ⟨_, rfl, .int k (k.wrap (a - b)), by simp [binOp, Op.intArith], fun _ => .int _ _⟩
  case mul => simp only [opI, Option.some.injEq] at h; subst h; exact ⟨_, rfl, .int k (k.wrap (a * b)), by simp [binOp, Op.intArith], fun _ => .int _ _⟩
  case quo =>
    simp only [opI] at h
    split at h
    · cases h
    · rename_i hb
      simp only [Option.some.injEq] at h; subst h; exact ⟨_, rfl, .int k (k.wrap (a.tdiv b)), by simp [binOp, Op.intDiv, hb], fun _ => .int _ _⟩
  case rem =>
    simp only [opI] at h
    split at h
    · cases h
    · rename_i hb
      simp only [Option.some.injEq] at h; subst h; exact ⟨_, rfl, .int k (a.tmod b), by simp [binOp, Op.intDiv, hb], fun _ => .int _ _⟩
  case and => simp only [opI, Option.some.injEq] at h; subst h; exact ⟨_, rfl, .int k _, by simp [binOp, Op.intBits], fun _ => .int _ _⟩
  case or => simp only [opI, Option.some.injEq] at h; subst h; exact ⟨_, rfl, .int k _, by simp [binOp, Op.intBits], fun _ => .int _ _⟩
  case xor => simp only [opI, Option.some.injEq] at h; subst h; exact ⟨_, rfl, .int k _, by simp [binOp, Op.intBits], fun _ => .int _ _⟩
  case eql => simp only [opI, Option.some.injEq] at h; subst h; exact ⟨_, rfl, .bool (a == b), by simp [binOp, Op.intCmp], fun _ => .bool _⟩
  case neq => simp only [opI, Option.some.injEq] at h; subst h; exact ⟨_, rfl, .bool (a != b), by simp [binOp, Op.intCmp], fun _ => .bool _⟩
  case lss => simp only [opI, Option.some.injEq] at h; subst h; exact ⟨_, rfl, .bool (decide (a < b)), by simp [binOp, Op.intCmp], fun _ => .bool _⟩
  case leq => simp only [opI, Option.some.injEq] at h; subst h; exact ⟨_, rfl, .bool (decide (a ≤ b)), by simp [binOp, Op.intCmp], fun _ => .bool _⟩
  case gtr => simp only [opI, Option.some.injEq] at h; subst h; exact ⟨_, rfl, .bool (decide (a > b)), by simp [binOp, Op.intCmp], fun _ => .bool _⟩
  case geq => simp only [opI, Option.some.injEq] at h; subst h; exact ⟨_, rfl, .bool (decide (a ≥ b)), by simp [binOp, Op.intCmp], fun _ => .bool _⟩
  all_goals (first | (simp [opI] at h; done) | (simp [isSh] at hs; done))

theorem run_equal_bool {P : Program} {w : World} {t : TypeId} (hu : P.underlying t = some .bool) (a b : Bool) : (Op.equal t (.bool a) (.bool b)).run P w = .ok (a == b) w := by
  have key : ∀ d, (Op.equalIn (d + 1) t (.bool a) (.bool b)).run P w = .ok (a == b) w := fun d => by
    simp [Op.equalIn, run_underlying hu]
  exact key 9999
theorem run_equal_nil {P : Program} {w : World} {t : TypeId} {ms : Array (String × TypeId)} (hu : P.underlying t = some (.interface ms)) : (Op.equal t .nilIface .nilIface).run P w = .ok true w := by
  have key : ∀ d, (Op.equalIn (d + 1) t .nilIface .nilIface).run P w = .ok true w := fun d => by
    simp [Op.equalIn, run_underlying hu]
  exact key 9999
theorem run_equal_some {P : Program} {w : World} {t : TypeId} {ms : Array (String × TypeId)} (hu : P.underlying t = some (.interface ms)) (t' : TypeId) (v' : Value) : (Op.equal t (.iface t' v') .nilIface).run P w = .ok false w := by
  have key : ∀ d, (Op.equalIn (d + 1) t (.iface t' v') .nilIface).run P w = .ok false w := fun d => by
    simp [Op.equalIn, run_underlying hu]
  exact key 9999

theorem opQ_sound {P : Program} {w : World} {X : Nat → Prop} {σ : List Ob} {op : BinOp} {t : TypeId} {x y v : V} {ox oy : Operand} {vx vy : Value} (hx : VR w X σ x vx) (hy : VR w X σ y vy)
    {yc : Bool} (hyc : yc = true → ∃ c, oy = .const c)
    (h : opQ P op t x y yc = some v) : ∃ val, (do eqGuard op t ox oy vx vy; binOp op t vx vy : Sem Value).run P w = .ok val w ∧ VR w X σ v val := by
  unfold opQ at h
  split at h
  · rename_i k a k' b
    cases hx with
    | t hx =>
    cases hy with
    | t hy =>
    cases hx
    cases hy
    have hg : (eqGuard op t ox oy (.int k a) (.int k' b)).run P w = .ok () w := by
      unfold eqGuard
      split <;> rfl
    split at h
    · rename_i hsh
      unfold opSh at h
      split at h
      · cases h
      · rename_i hb
        cases op <;> simp only [isSh, Bool.false_eq_true] at hsh <;> simp only [Option.some.injEq] at h <;> subst h <;>
          exact ⟨_, by simp [hg, binOp, Op.shift, hb], .t (.int _ _)⟩
    · rename_i hsh
      split at h
      · rename_i hk
        subst hk
        obtain ⟨z, rfl, y, h1, h2⟩ := opI_sound (P := P) (w := w) (t := t) (by simpa using hsh) h
        exact ⟨y, by simp [hg, h1], .t (h2 _)⟩
      · cases h
  · rename_i a b
    cases hx with
    | t hx =>
    cases hy with
    | t hy =>
    cases hx
    cases hy
    have hg : (eqGuard op t ox oy (.string a) (.string b)).run P w = .ok () w := by
      unfold eqGuard
      split <;> rfl
    unfold opStr at h
    split at h
    · split at h
      · cases h
      · rename_i hb
        simp only [Option.some.injEq] at h
        subst h
        exact ⟨_, by simp only [Sem.run_bind, hg, Result.andThen_ok, binOp, Op.stringOp, if_neg hb]; rfl, .t (.str _)⟩
    · simp only [Option.some.injEq] at h
      subst h
      exact ⟨_, by simp only [Sem.run_bind, hg, Result.andThen_ok, binOp, Op.stringOp, bytes_beq]; rfl, .t (.bool _)⟩
    · simp only [Option.some.injEq] at h
      subst h
      exact ⟨_, by simp only [Sem.run_bind, hg, Result.andThen_ok, binOp, Op.stringOp, bytes_beq, ← decide_not]; rfl, .t (.bool _)⟩
    · cases h
  · rename_i a b
    cases hx with
    | t hx =>
    cases hy with
    | t hy =>
    cases hx
    cases hy
    have hg : (eqGuard op t ox oy (.bool a) (.bool b)).run P w = .ok () w := by
      unfold eqGuard
      split <;> rfl
    split at h
    · rename_i ht
      unfold tBool at ht
      have hu : P.underlying t = some .bool := by
        revert ht
        split <;> simp_all
      have he : (Op.equal t (.bool a) (.bool b)).run P w = .ok (a == b) w := run_equal_bool hu a b
      split at h
      · simp only [Option.some.injEq] at h
        subst h
        exact ⟨_, by simp [hg, binOp, he], .t (.bool _)⟩
      · simp only [Option.some.injEq] at h
        subst h
        exact ⟨_, by simp [hg, binOp, he], .t (.bool _)⟩
      · cases h
    · cases h
  · rename_i b
    split at h
    · rename_i ht
      have ht := Bool.and_eq_true_iff.mp ht
      obtain ⟨hc, ht⟩ := ht
      unfold tIface at ht
      obtain ⟨ms, hu⟩ : ∃ ms, P.underlying t = some (.interface ms) := by
        revert ht
        split <;> simp_all
      cases hy with
      | errN =>
      cases hx with
      | errN =>
        have hg : (eqGuard op t ox oy .nilIface .nilIface).run P w = .ok () w := by
          obtain ⟨c, rfl⟩ := hyc hc
          unfold eqGuard
          cases ox <;> cases op <;> simp
        have he : (Op.equal t .nilIface .nilIface).run P w = .ok true w := run_equal_nil hu
        split at h
        · simp only [Option.some.injEq] at h
          subst h
          exact ⟨_, by simp [hg, binOp, he], .t (.bool _)⟩
        · simp only [Option.some.injEq] at h
          subst h
          exact ⟨_, by simp [hg, binOp, he], .t (.bool _)⟩
        · cases h
      | errS t' v' =>
        have hg : (eqGuard op t ox oy (.iface t' v') .nilIface).run P w = .ok () w := by
          unfold eqGuard
          split <;> rfl
        have he : (Op.equal t (.iface t' v') .nilIface).run P w = .ok false w := run_equal_some hu _ _
        split at h
        · simp only [Option.some.injEq] at h
          subst h
          exact ⟨_, by simp [hg, binOp, he], .t (.bool _)⟩
        · simp only [Option.some.injEq] at h
          subst h
          exact ⟨_, by simp [hg, binOp, he], .t (.bool _)⟩
        · cases h
    · cases h
  · cases h
end Go.VL
namespace Go.VL
set_option linter.unusedVariables false
set_option linter.unusedSimpArgs false

theorem VR.int_inv {w : World} {X : Nat → Prop} {σ : List Ob} {k : IntKind} {n : Int} {v : Value} (h : VR w X σ (.t (.int k n)) v) : v = .int k n := by
  cases h with
  | t h => cases h; rfl
theorem VR.bool_inv {w : World} {X : Nat → Prop} {σ : List Ob} {b : Bool} {v : Value} (h : VR w X σ (.t (.bool b)) v) : v = .bool b := by
  cases h with
  | t h => cases h; rfl
theorem VR.str_inv {w : World} {X : Nat → Prop} {σ : List Ob} {s : ByteArray} {v : Value} (h : VR w X σ (.t (.str s)) v) : v = .string s := by
  cases h with
  | t h => cases h; rfl

def opU (op : UnOp) (x : V) : Option V := match op, x with
  | .not, .t (.bool b) => some (.t (.bool (!b)))
  | .neg, .t (.int k n) => some (.t (.int k (k.wrap (0 - n))))
  | _, _ => none
theorem opU_sound {P : Program} {w : World} {X : Nat → Prop} {σ : List Ob} {op : UnOp} {x v : V} {vx : Value} (hx : VR w X σ x vx) (h : opU op x = some v) :
    ∃ val, (Op.unary op vx).run P w = .ok val w ∧ VR w X σ v val := by
  unfold opU at h
  split at h
  · simp only [Option.some.injEq] at h
    subst h
    cases hx with
    | t hx =>
    cases hx
    exact ⟨_, rfl, .t (.bool _)⟩
  · simp only [Option.some.injEq] at h
    subst h
    cases hx with
    | t hx =>
    cases hx
    exact ⟨_, rfl, .t (.int _ _)⟩
  · cases h

/-- The object that a value leads to at once. -/
def V.root : V → Option Nat
  | .own r .. => some r
  | .ptr r .. => some r
  | .map r => some r
  | _ => none
/-- Is a pointer or a slice into one's own objects of the object's last version? -/
def St.live (s : St) : V → Bool
  | .own r ver _ _ => match s.σ[r]? with | some (.row _ v _ _ _) => ver == v | _ => false
  | .ptr r ver _ _ => match s.σ[r]? with | some (.row _ v _ _ _) => ver == v | _ => false
  | _ => true

/-- The numbers of a row of bytes. -/
def numsOf : List (List V) → Option (List Int)
  | [] => some []
  | [.t (.int .u8 n)] :: l => match numsOf l with | some r => some (n :: r) | none => none
  | _ => none
/-- The elements of a slice of one's own. -/
def St.elems (s : St) : V → Option (List (List V))
  | .own r ver off len => match s.σ[r]? with
    | some (.row _ v _ _ es) => if ver = v then some ((es.drop off).take len) else none
    | _ => none
  | .nil0 => some []
  | .t (.sl _ es) => some (es.map (·.map V.t))
  | _ => none

/-- The cells behind a slice. -/
theorem Inv.elems {w0 : World} {av0 X : Nat → Prop} {N : Nat} {a : Act} {w : World} {s : St} (hi : Inv w0 av0 X N a w s) {p : V} {l : List (List V)} {v : Value}
    (h : s.elems p = some l) (hp : VR w X s.σ p v) : ∃ (ao : Option Addr) (c : Nat), v = .slice ao l.length c ∧ l.length ≤ c ∧
      (l ≠ [] → ∃ (g o sz : Nat), ao = some ⟨g, o, none⟩ ∧ g < w.heap.size ∧ ∃ cell : Nat → Nat → Value, ∀ (i : Nat) (e : List V), l[i]? = some e → e.length = sz ∧
        ∀ (j : Nat) (x : V), e[j]? = some x → w.cell? ⟨g, o + i * sz + j, none⟩ = some (cell i j) ∧ VR w X s.σ x (cell i j)) := by
  unfold St.elems at h
  split at h
  · rename_i r ver off len
    split at h
    · rename_i g ver' sz m es hσ
      split at h
      · rename_i hv
        subst hv
        simp only [Option.some.injEq] at h
        subst h
        cases hp with
        | @own _ _ _ _ g2 v2 sz2 n2 es2 _ h2 hv2 h1c hp2 =>
          rw [hσ] at h2
          simp only [Option.some.injEq, Ob.row.injEq] at h2
          obtain ⟨rfl, rfl, rfl, rfl, rfl⟩ := h2
          obtain ⟨c, rfl, hc1, hc2, hc3⟩ := hp2 rfl
          obtain ⟨cs, et, h3, h4, h5, h6⟩ := hi.hp.obj r _ hσ
          have hll : ((es.drop off).take len).length = len := by simp; omega
          refine ⟨some ⟨g, off * sz, none⟩, c, by rw [hll], by rw [hll]; exact hc1, fun hne => ⟨g, off * sz, sz, rfl, (Array.getElem?_eq_some_iff.1 h3).1, fun i j => cs.getD ((off + i) * sz + j) Go.undef, fun i e he => ?_⟩⟩
          rw [List.getElem?_take] at he
          split at he
          · rename_i hil
            rw [List.getElem?_drop] at he
            obtain ⟨h7, h8⟩ := h6 (off + i) e he
            refine ⟨h7, fun j x hx => ⟨?_, h8 j x hx⟩⟩
            have hjl := (List.getElem?_eq_some_iff.1 hx).1
            have hil2 := (List.getElem?_eq_some_iff.1 he).1
            have hcs : (off + i) * sz + sz ≤ cs.size := by rw [h4]; refine Nat.le_trans ?_ h5; rw [← Nat.succ_mul]; exact Nat.mul_le_mul_right _ hil2
            rw [cell_of_cells h3]
            have e1 : off * sz + i * sz + j = (off + i) * sz + j := by rw [Nat.add_mul]
            have e2 : (off + i) * sz + j < cs.size := by omega
            rw [e1]
            simp [e2]
          · cases he
      · cases h
    · cases h
  · simp only [Option.some.injEq] at h
    subst h
    cases hp with
    | nil0 a => exact ⟨a, 0, rfl, by simp, fun hne => absurd rfl hne⟩
  · rename_i g es
    simp only [Option.some.injEq] at h
    subst h
    cases hp with
    | t hp =>
      cases hp with
      | nil g a c => exact ⟨a, c, rfl, by simp, fun hne => absurd rfl hne⟩
      | sl g es off c sz cell hc hg ha hl hcell hr =>
        refine ⟨some ⟨g, off, none⟩, c, by simp, by simpa using hc, fun hne => ⟨g, off, sz, rfl, hg, cell, fun i e he => ?_⟩⟩
        rw [List.getElem?_map] at he
        obtain ⟨e0, he0, rfl⟩ := Option.map_eq_some_iff.1 he
        refine ⟨by simpa using hl i e0 he0, fun j x hx => ?_⟩
        rw [List.getElem?_map] at hx
        obtain ⟨t0, ht0, rfl⟩ := Option.map_eq_some_iff.1 hx
        exact ⟨hcell i j e0 t0 he0 ht0, .t (hr i j e0 t0 he0 ht0)⟩
  · cases h

theorem numsOf_spec : ∀ (l : List (List V)) (bs : List Int), numsOf l = some bs → l = bs.map fun n => [.t (.int .u8 n)]
  | [], bs, h => by
    simp only [numsOf, Option.some.injEq] at h
    subst h
    rfl
  | e :: l, bs, h => by
    unfold numsOf at h
    split at h
    · rename_i heq
      cases heq
    · rename_i n l' heq
      simp only [List.cons.injEq] at heq
      obtain ⟨rfl, rfl⟩ := heq
      split at h
      · rename_i r hr
        simp only [Option.some.injEq] at h
        subst h
        rw [numsOf_spec l r hr]
        rfl
      · cases h
    · cases h
theorem numsOf_map (bs : List Int) : numsOf (bs.map fun n => [.t (.int .u8 n)]) = some bs := by
  induction bs with
  | nil => rfl
  | cons n l ih => simp only [List.map_cons, numsOf, ih]

def convQ (P : Program) (s : St) (src dst : TypeId) (x : V) : Option V := match x with
  | .t (.int k n) => match tInt P dst with | some k' => if (P.underlying src).isSome then some (.t (.int k' (k'.wrap n))) else none | none => none
  | .t (.str b) => if (P.underlying src).isSome && tStr P dst then some (.t (.str b)) else none
  | _ => match tElem P src with
    | some e => match tInt P e, tStr P dst, s.elems x with
      | some .u8, true, some l => match numsOf l with | some bs => some (.t (.str (strOfNums bs))) | none => none
      | _, _, _ => none
    | none => none

theorem tInt_spec {P : Program} {t : TypeId} {k : IntKind} (h : tInt P t = some k) : P.underlying t = some (.int k) := by
  unfold tInt at h
  split at h
  · rename_i k' hu
    simp only [Option.some.injEq] at h
    subst h
    exact hu
  · cases h
theorem tStr_spec {P : Program} {t : TypeId} (h : tStr P t = true) : P.underlying t = some .string := by
  unfold tStr at h
  split at h
  · assumption
  · cases h
theorem tElem_spec {P : Program} {t e : TypeId} (h : tElem P t = some e) : P.underlying t = some (.slice e) := by
  unfold tElem at h
  split at h
  · rename_i k' hu
    simp only [Option.some.injEq] at h
    subst h
    exact hu
  · cases h

theorem convQ_sound {P : Program} {w0 : World} {av0 X : Nat → Prop} {N : Nat} {a : Act} {w : World} {s : St} (hi : Inv w0 av0 X N a w s) {src dst : TypeId} {x v : V} {vx : Value}
    (h : convQ P s src dst x = some v) (hx : VR w X s.σ x vx) : ∃ val, (convert src dst vx).run P w = .ok val w ∧ VR w X s.σ v val := by
  unfold convQ at h
  split at h
  · rename_i k n
    cases hx with
    | t hx =>
    cases hx
    split at h
    · rename_i k' hk
      split at h
      · rename_i hs
        simp only [Option.some.injEq] at h
        subst h
        obtain ⟨d, hd⟩ := Option.isSome_iff_exists.1 hs
        refine ⟨.int k' (k'.wrap n), ?_, .t (.int _ _)⟩
        simp only [convert, Sem.run_bind, run_underlying hd, run_underlying (tInt_spec hk), Result.andThen_ok]
        cases d <;> rfl
      · cases h
    · cases h
  · rename_i b
    cases hx with
    | t hx =>
    cases hx
    split at h
    · rename_i hs
      obtain ⟨hs1, hs2⟩ := Bool.and_eq_true_iff.mp hs
      simp only [Option.some.injEq] at h
      subst h
      obtain ⟨d, hd⟩ := Option.isSome_iff_exists.1 hs1
      refine ⟨.string b, ?_, .t (.str _)⟩
      simp only [convert, Sem.run_bind, run_underlying hd, run_underlying (tStr_spec hs2), Result.andThen_ok]
      cases d <;> rfl
    · cases h
  · split at h
    · rename_i e he
      split at h
      · rename_i l hk hs hl
        split at h
        · rename_i bs hbs
          simp only [Option.some.injEq] at h
          subst h
          obtain ⟨ao, c, rfl, hc, hcell⟩ := hi.elems hl hx
          have hlb := numsOf_spec l bs hbs
          refine ⟨.string (strOfNums bs), ?_, .t (.str _)⟩
          cases bs with
          | nil =>
            subst hlb
            cases ao with
            | none =>
              rw [run_convert_bytes_nil w src e (tElem_spec he) (tInt_spec hk) _ _ dst (tStr_spec hs)]
              rfl
            | some ad =>
              obtain ⟨b, o, sp⟩ := ad
              rw [run_convert_bytes_string w src dst e _ _ c (tElem_spec he) (tInt_spec hk) (tStr_spec hs), run_bytesToString w _ _ c [] (by simp [loadCells, loadCellsFrom])]
              rfl
          | cons n0 bs0 =>
            obtain ⟨g, o, sz, rfl, hg, cell, hcc⟩ := hcell (by rw [hlb]; simp)
            have hlen : (n0 :: bs0).length = l.length := by rw [hlb]; simp
            refine run_convert_bytes_arg w src e (tElem_spec he) (tInt_spec hk) g o l.length c (n0 :: bs0) hlen (fun i hi' => ?_) dst (tStr_spec hs)
            have hib : i < (n0 :: bs0).length := by omega
            have h1 := hcc i [.t (.int .u8 (n0 :: bs0)[i])] (by rw [hlb, List.getElem?_map, List.getElem?_eq_getElem hib]; rfl)
            obtain ⟨h2, h3⟩ := h1
            obtain ⟨h4, h5⟩ := h3 0 _ rfl
            have hsz : sz = 1 := by simpa using h2.symm
            subst hsz
            rw [Nat.mul_one, Nat.add_zero] at h4
            rw [h4]
            have h6 : cell i 0 = .int .u8 (n0 :: bs0)[i] := h5.int_inv
            rw [h6, List.getD_eq_getElem?_getD, List.getElem?_eq_getElem hib]
            rfl
        · cases h
      · cases h
    · cases h

/-! ### parts of values -/
def fieldAddrQ (P : Program) (s : St) (t : TypeId) (x : V) (f : Nat) : Option V := match tField P t f, x with
  | some (off, _), .ptr r ver i j => if s.live (.ptr r ver i j) then some (.ptr r ver i (j + off)) else none
  | some (off, _), .fz e j => some (.fz e (j + off))
  | _, _ => none

theorem tField_spec {P : Program} {t f off ft : Nat} (h : tField P t f = some (off, ft)) : ∃ (fs : Array Field) (x : Field) (n : Nat), P.underlying t = some (.struct fs) ∧ fs[f]? = some x ∧ x.offset = off ∧ x.type = ft ∧ tSize P ft = some (n + 1) := by
  unfold tField at h
  split at h
  · rename_i fs hu
    split at h
    · rename_i x hx
      split at h
      · rename_i n hn
        simp only [Option.some.injEq, Prod.mk.injEq] at h
        obtain ⟨rfl, rfl⟩ := h
        exact ⟨fs, x, n, hu, hx, rfl, rfl, hn⟩
      · cases h
    · cases h
  · cases h

theorem fieldAddrQ_sound {P : Program} {w0 : World} {av0 X : Nat → Prop} {N : Nat} {a : Act} {w : World} {s : St} (hi : Inv w0 av0 X N a w s) {t : TypeId} {x v : V} {f : Nat} {vx : Value}
    (h : fieldAddrQ P s t x f = some v) (hx : VR w X s.σ x vx) : ∃ val, (Instr.fieldAt t vx f).run P w = .ok val w ∧ VR w X s.σ v val := by
  unfold fieldAddrQ at h
  split at h
  · rename_i off ft r ver i j hf
    obtain ⟨fs, x, n, hu, hfx, rfl, rfl, hn⟩ := tField_spec hf
    split at h
    · rename_i hlive
      simp only [Option.some.injEq] at h
      subst h
      cases hx with
      | @ptr _ _ _ _ g v2 sz2 n2 es2 _ h2 hv2 h1c hp2 =>
        have hv : ver = v2 := by simpa [St.live, h2] using hlive
        subst hv
        rw [hp2 rfl]
        refine ⟨.pointer (some ⟨g, i * sz2 + (j + x.offset), none⟩), ?_, .ptr h2 (Nat.le_refl _) rfl (fun _ => rfl)⟩
        simp [Instr.fieldAt, run_underlying hu, hfx, Instr.sureAddr, fieldPlace, run_sizeOf hn, addr_add, Nat.add_assoc]
    · cases h
  · rename_i off ft e j hf
    obtain ⟨fs, x, n, hu, hfx, rfl, rfl, hn⟩ := tField_spec hf
    simp only [Option.some.injEq] at h
    subst h
    cases hx with
    | @fz _ _ b o cell hb ha hc hr =>
      refine ⟨.pointer (some ⟨b, o + (j + x.offset), none⟩), ?_, .fz hb ha hc hr⟩
      simp [Instr.fieldAt, run_underlying hu, hfx, Instr.sureAddr, fieldPlace, run_sizeOf hn, addr_add, Nat.add_assoc]
  · cases h

def fieldQ (P : Program) (t : TypeId) (x : V) (f : Nat) : Option V := match tField P t f, x with
  | some (off, ft), .agg cs => match tAgg P ft, tSize P ft with
    | some true, some n => some (.agg ((cs.drop off).take n))
    | some false, _ => cs[off]?
    | _, _ => none
  | _, _ => none
theorem fieldQ_sound {P : Program} {w : World} {X : Nat → Prop} {σ : List Ob} {t : TypeId} {x v : V} {f : Nat} {vx : Value}
    (h : fieldQ P t x f = some v) (hx : VR w X σ x vx) : ∃ val, (Instr.field t vx f).run P w = .ok val w ∧ VR w X σ v val := by
  unfold fieldQ at h
  split at h
  · rename_i off ft cs hf
    obtain ⟨fs, x, n, hu, hfx, rfl, rfl, hn⟩ := tField_spec hf
    cases hx with
    | @agg _ vs hl hr =>
    split at h
    · rename_i m ha hm
      simp only [Option.some.injEq] at h
      subst h
      refine ⟨.agg (vs.extract x.offset (x.offset + m)), ?_, .agg (by simp; omega) (fun i c hc => ?_)⟩
      · simp [Instr.field, run_underlying hu, hfx, part, run_isAgg ha, run_sizeOf hm, asAgg]
      · rw [List.getElem?_take] at hc
        split at hc
        · rename_i him
          rw [List.getElem?_drop] at hc
          have h1 := hr _ c hc
          have h2 := (List.getElem?_eq_some_iff.1 hc).1
          have e : (vs.extract x.offset (x.offset + m)).getD i Go.undef = vs.getD (x.offset + i) Go.undef := by
            have h3 : x.offset + i < vs.size := by omega
            have h4 : i < (vs.extract x.offset (x.offset + m)).size := by simp; omega
            rw [Array.getD_eq_getD_getElem?, Array.getD_eq_getD_getElem?, Array.getElem?_eq_getElem h4, Array.getElem?_eq_getElem h3]
            simp
          rw [e]
          exact h1
        · cases hc
    · rename_i ha
      have h2 := (List.getElem?_eq_some_iff.1 h).1
      have h1 := hr _ _ h
      have h3 : x.offset < vs.size := by omega
      refine ⟨vs[x.offset], ?_, by simpa [h3] using h1⟩
      simp [Instr.field, run_underlying hu, hfx, part, run_isAgg ha, asAgg, h3]
    · cases h
  · cases h
end Go.VL
namespace Go.VL
set_option linter.unusedVariables false
set_option linter.unusedSimpArgs false

/-- Cells written over from a place on. -/
def setV : List V → Nat → List V → List V
  | cs, _, [] => cs
  | [], _, _ :: _ => []
  | _ :: cs, 0, v :: vs => v :: setV cs 0 vs
  | c :: cs, n + 1, v :: vs => c :: setV cs n (v :: vs)
theorem setV_length : ∀ (cs : List V) (n : Nat) (vs : List V), (setV cs n vs).length = cs.length
  | cs, n, [] => by cases cs <;> rfl
  | [], _, _ :: _ => rfl
  | c :: cs, 0, v :: vs => by rw [setV, List.length_cons, setV_length cs 0 vs, List.length_cons]
  | c :: cs, n + 1, v :: vs => by rw [setV, List.length_cons, setV_length cs n (v :: vs), List.length_cons]
theorem setV_get : ∀ (cs : List V) (n : Nat) (vs : List V) (j : Nat), (setV cs n vs)[j]? = if n ≤ j ∧ j < n + vs.length ∧ j < cs.length then vs[j - n]? else cs[j]?
  | cs, n, [], j => by
    have : setV cs n [] = cs := by cases cs <;> rfl
    rw [this, if_neg (by simp; omega)]
  | [], n, v :: vs, j => by rw [setV, if_neg (by simp)]
  | c :: cs, 0, v :: vs, j => by
    rw [setV]
    cases j with
    | zero => simp
    | succ j =>
      rw [List.getElem?_cons_succ, setV_get cs 0 vs j]
      simp only [List.length_cons, Nat.sub_zero, List.getElem?_cons_succ]
      by_cases h : j < vs.length ∧ j < cs.length
      · rw [if_pos ⟨by omega, by omega, h.2⟩, if_pos ⟨by omega, by omega, by omega⟩]
      · rw [if_neg (by omega), if_neg (by omega)]
  | c :: cs, n + 1, v :: vs, j => by
    rw [setV]
    cases j with
    | zero => simp
    | succ j =>
      rw [List.getElem?_cons_succ, setV_get cs n (v :: vs) j, List.getElem?_cons_succ]
      simp only [List.length_cons, Nat.add_sub_add_right]
      by_cases h : n ≤ j ∧ j < n + (vs.length + 1) ∧ j < cs.length
      · rw [if_pos h, if_pos ⟨by omega, by omega, by omega⟩]
      · rw [if_neg h, if_neg (by omega)]

/-- A list of values stands for an array of the machine's. -/
def VRs (w : World) (X : Nat → Prop) (σ : List Ob) (cs : List V) (vs : Array Value) : Prop := vs.size = cs.length ∧ ∀ (i : Nat) (c : V), cs[i]? = some c → VR w X σ c (vs.getD i undef)

theorem foldl_set_get : ∀ (l : List Value) (k off : Nat) (cs : Array Value) (j : Nat),
    ((l.zipIdx k).foldl (fun cs (p : Value × Nat) => cs.setIfInBounds (off + p.2) p.1) cs)[j]? = if off + k ≤ j ∧ j < off + k + l.length ∧ j < cs.size then l[j - (off + k)]? else cs[j]?
  | [], k, off, cs, j => by simp; omega
  | v :: l, k, off, cs, j => by
    rw [List.zipIdx_cons, List.foldl_cons, foldl_set_get l (k + 1) off _ j]
    simp only [Array.size_setIfInBounds, List.length_cons]
    by_cases h1 : off + k = j
    · subst h1
      rw [if_neg (by omega)]
      by_cases h2 : off + k < cs.size
      · rw [if_pos ⟨by omega, by omega, h2⟩]
        simp [h2]
      · rw [if_neg (by omega)]
        simp [h2]
    · by_cases h2 : off + (k + 1) ≤ j ∧ j < off + (k + 1) + l.length ∧ j < cs.size
      · rw [if_pos h2, if_pos ⟨by omega, by omega, h2.2.2⟩]
        have : j - (off + k) = j - (off + (k + 1)) + 1 := by omega
        rw [this, List.getElem?_cons_succ]
      · rw [if_neg h2, if_neg (by omega), Array.getElem?_setIfInBounds_ne h1]
theorem foldl_set_size : ∀ (l : List Value) (k off : Nat) (cs : Array Value),
    ((l.zipIdx k).foldl (fun cs (p : Value × Nat) => cs.setIfInBounds (off + p.2) p.1) cs).size = cs.size
  | [], k, off, cs => rfl
  | v :: l, k, off, cs => by rw [List.zipIdx_cons, List.foldl_cons, foldl_set_size l (k + 1) off _]; simp

/-- One cell's value, and known. -/
def V.leaf : V → Bool | .agg _ => false | .tup _ => false | .undef => false | .skip => false | _ => true
def V.cells : V → List V | .agg cs => cs | v => [v]
theorem VR.one {w : World} {X : Nat → Prop} {σ : List Ob} {v : V} {x : Value} (h : VR w X σ v x) (hl : v.leaf = true) : x.oneCell' = true := by
  cases h with
  | t h => cases h <;> rfl
  | own h hv h1 hp => exact h1
  | ptr h hv h1 hp => exact h1
  | nil0 a => rfl
  | fz hb ha hc hr => rfl
  | fn hl hr => rfl
  | map h => rfl
  | errN => rfl
  | errS t v => rfl
  | agg hl' hr => simp [V.leaf] at hl
  | tup hl' hr => simp [V.leaf] at hl
  | undef => simp [V.leaf] at hl
  | skip => simp [V.leaf] at hl
theorem cells_one {x : Value} (h : x.oneCell' = true) : x.cells = #[x] := by cases x <;> first | rfl | (simp [Value.oneCell'] at h)
theorem VR.cells {w : World} {X : Nat → Prop} {σ : List Ob} {v : V} {x : Value} (h : VR w X σ v x) (hu : v.leaf = true ∨ ∃ cs, v = .agg cs) : VRs w X σ v.cells x.cells := by
  rcases hu with hl | ⟨cs, rfl⟩
  · have hc : v.cells = [v] := by cases v <;> first | rfl | simp [V.leaf] at hl
    rw [hc, cells_one (h.one hl)]
    refine ⟨rfl, fun i c hc => ?_⟩
    cases i with
    | zero =>
      simp only [List.getElem?_cons_zero, Option.some.injEq] at hc
      subst hc
      exact h
    | succ i => simp at hc
  · cases h with
    | agg hl hr => exact ⟨hl, hr⟩

/-- What may be stored: one known cell, or a struct of such. -/
def V.solid : V → Bool | .agg cs => cs.all V.leaf | v => v.leaf
theorem V.solid_or {v : V} (h : v.solid = true) : v.leaf = true ∨ ∃ cs, v = .agg cs := by
  cases v <;> first | exact .inr ⟨_, rfl⟩ | exact .inl h
theorem VR.solid_one {w : World} {X : Nat → Prop} {σ : List Ob} {v : V} {x : Value} (h : VR w X σ v x) (hs : v.solid = true) : ∀ u ∈ x.cells.toList, u.oneCell' = true := by
  intro u hu
  obtain ⟨h1, h2⟩ := h.cells (V.solid_or hs)
  obtain ⟨i, hi⟩ := List.getElem?_of_mem hu
  rw [Array.getElem?_toList] at hi
  have hlt := (Array.getElem?_eq_some_iff.1 hi).1
  have hc : v.cells[i]? = some v.cells[i] := List.getElem?_eq_getElem (by omega)
  have h3 := h2 i _ hc
  have h4 : x.cells.getD i Go.undef = u := by
    rw [Array.getD_eq_getD_getElem?, hi]; rfl
  rw [h4] at h3
  refine h3.one ?_
  have hm : v.cells[i] ∈ v.cells := List.getElem_mem _
  cases v <;> simp only [V.solid, V.cells] at hs hm ⊢ <;> first
    | exact List.all_eq_true.1 hs _ hm
    | (simp only [List.mem_singleton] at hm; rw [hm]; exact hs)

/-! ### indexes and cuts -/
def indexAddrQ (P : Program) (s : St) (t : TypeId) (x ix : V) : Option V := match tElem P t with
  | some e => match tSize P e with
    | some sz => match x, ix with
      | .t (.sl g es), .t (.int k i) => if 0 ≤ i ∧ i < es.length ∧ (es.getD i.toNat []).length = sz then some (.fz (es.getD i.toNat []) 0) else none
      | .own r ver off len, .t (.int k i) => match s.σ[r]? with
        | some (.row _ v sz' _ _) => if ver = v ∧ sz' = sz ∧ 0 ≤ i ∧ i < len then some (.ptr r ver (off + i.toNat) 0) else none
        | _ => none
      | _, _ => none
    | none => none
  | none => none
theorem indexAddrQ_sound {P : Program} {w0 : World} {av0 X : Nat → Prop} {N : Nat} {a : Act} {w : World} {s : St} (hi : Inv w0 av0 X N a w s) {t : TypeId} {x ix v : V} {vx vi : Value}
    (h : indexAddrQ P s t x ix = some v) (hx : VR w X s.σ x vx) (hix : VR w X s.σ ix vi) : ∃ val, (Instr.indexAt t vx vi).run P w = .ok val w ∧ VR w X s.σ v val := by
  unfold indexAddrQ at h
  split at h
  · rename_i e he
    have hu := tElem_spec he
    split at h
    · rename_i sz hsz
      split at h
      · rename_i g es k i
        split at h
        · rename_i hb
          obtain ⟨h0, h1, h2⟩ := hb
          simp only [Option.some.injEq] at h
          subst h
          rw [hix.int_inv]
          have hlt : i.toNat < es.length := by omega
          have hge : es[i.toNat]? = some (es.getD i.toNat []) := by rw [List.getD_eq_getElem?_getD, List.getElem?_eq_getElem hlt]; rfl
          cases hx with
          | t hx =>
          cases hx with
          | nil g a c => simp at hlt
          | sl g es off c sz' cell hc hg ha hl hcell hr =>
            have hs : sz' = sz := by rw [← h2]; exact (hl _ _ hge).symm
            subst hs
            refine ⟨.pointer (some ⟨g, off + i.toNat * sz' + 0, none⟩), ?_, .fz hg ha (cell := fun j => cell i.toNat j) (fun j t ht => hcell _ j _ t hge ht) (fun j t ht => hr _ j _ t hge ht)⟩
            simp [Instr.indexAt, asIntOf, run_underlying hu, run_sizeOf hsz, h0, h1, addr_add]
        · cases h
      · rename_i r ver off len k i
        split at h
        · rename_i g' v' sz' n' es' hσ
          split at h
          · rename_i hb
            obtain ⟨rfl, rfl, h0, h1⟩ := hb
            simp only [Option.some.injEq] at h
            subst h
            rw [hix.int_inv]
            cases hx with
            | @own _ _ _ _ g2 v2 sz2 n2 es2 _ h2 hv2 h1c hp2 =>
              rw [hσ] at h2
              simp only [Option.some.injEq, Ob.row.injEq] at h2
              obtain ⟨rfl, rfl, rfl, rfl, rfl⟩ := h2
              obtain ⟨c, rfl, hc1, hc2, hc3⟩ := hp2 rfl
              refine ⟨.pointer (some ⟨g', (off + i.toNat) * sz' + 0, none⟩), ?_, .ptr hσ (Nat.le_refl _) rfl (fun _ => rfl)⟩
              simp [Instr.indexAt, asIntOf, run_underlying hu, run_sizeOf hsz, h0, h1, addr_add, Nat.add_mul]
          · cases h
        · cases h
      · cases h
    · cases h
  · cases h

def byteAt (s : ByteArray) (n : Nat) : Int := ((s.data.toList.getD n 0).toNat : Int)
def indexQ (P : Program) (t : TypeId) (x ix : V) : Option V := match x, ix with
  | .t (.str s), .t (.int k i) => if tStr P t = true ∧ 0 ≤ i ∧ i < s.size then some (.t (.int .u8 (byteAt s i.toNat))) else none
  | _, _ => none
theorem indexQ_sound {P : Program} {w : World} {X : Nat → Prop} {σ : List Ob} {t : TypeId} {x ix v : V} {vx vi : Value}
    (h : indexQ P t x ix = some v) (hx : VR w X σ x vx) (hix : VR w X σ ix vi) : ∃ val, (Instr.index t vx vi).run P w = .ok val w ∧ VR w X σ v val := by
  unfold indexQ at h
  split at h
  · rename_i s k i
    split at h
    · rename_i hb
      obtain ⟨ht, h0, h1⟩ := hb
      simp only [Option.some.injEq] at h
      subst h
      rw [hix.int_inv, hx.str_inv]
      have hlt : i.toNat < s.size := by omega
      have hlt2 : i.toNat < s.data.toList.length := by simpa using hlt
      refine ⟨.int .u8 (byteAt s i.toNat), ?_, .t (.int _ _)⟩
      have hg : s[i.toNat]? = some s[i.toNat] := by simp [hlt]
      have hbv : (s[i.toNat].toNat : Int) = byteAt s i.toNat := by
        unfold byteAt
        rw [List.getD_eq_getElem?_getD, List.getElem?_eq_getElem hlt2]
        simp
        rfl
      simp [Instr.index, asIntOf, run_underlying (tStr_spec ht), h0, hg, hbv]
    · cases h
  · cases h

def sliceB (x : Option V) (d y : Nat) : Option Nat := match x with
  | none => some d
  | some (.t (.int _ i)) => if 0 ≤ i ∧ i ≤ y then some i.toNat else none
  | some _ => none
def OVR (w : World) (X : Nat → Prop) (σ : List Ob) : Option V → Option Value → Prop
  | none, none => True
  | some x, some y => VR w X σ x y
  | _, _ => False
theorem sliceB_run {P : Program} {w : World} {X : Nat → Prop} {σ : List Ob} {o : Option V} {vo : Option Value} {d y cap h : Nat} (code : BoundsCode) (hs : sliceB o d y = some h) (ho : OVR w X σ o vo) (hy : y ≤ cap) (hd : d ≤ y) :
    (match vo with | some v => Instr.sliceBound v cap code | none => (pure d : Sem Nat)).run P w = .ok h w ∧ h ≤ y := by
  cases o with
  | none =>
    cases vo with
    | some v => exact ho.elim
    | none =>
      simp only [sliceB, Option.some.injEq] at hs
      subst hs
      exact ⟨rfl, hd⟩
  | some x =>
    cases vo with
    | none => exact ho.elim
    | some v =>
      have ho' : VR w X σ x v := ho
      unfold sliceB at hs
      split at hs
      · rename_i heq
        cases heq
      · rename_i k i heq
        simp only [Option.some.injEq] at heq
        subst heq
        split at hs
        · rename_i hb
          simp only [Option.some.injEq] at hs
          rw [ho'.int_inv]
          refine ⟨?_, by omega⟩
          have : 0 ≤ i ∧ i ≤ (cap : Int) := by omega
          simp [Instr.sliceBound, asIntOf, this, hs]
        · cases hs
      · cases hs
/-- What the machine's bounds come to, under the bounds of ours. -/
theorem run_sliceBounds {P : Program} {w : World} {X : Nat → Prop} {σ : List Ob} {isS : Bool} {len cap n h l : Nat} {lo hi : Option V} {vlo vhi : Option Value} (hn : n ≤ cap) (hd : len = n)
    (h1 : sliceB hi n n = some h) (h2 : sliceB lo 0 h = some l) (rlo : OVR w X σ lo vlo) (rhi : OVR w X σ hi vhi) :
    (Instr.sliceBounds isS len cap vlo vhi none).run P w = .ok (l, h, cap) w ∧ l ≤ h ∧ h ≤ n := by
  subst hd
  obtain ⟨r1, g1⟩ := sliceB_run (P := P) (if isS then .sliceAcap else .sliceAlen) h1 rhi hn (Nat.le_refl _)
  obtain ⟨r2, g2⟩ := sliceB_run (P := P) .sliceB h2 rlo (Nat.le_refl _) (Nat.zero_le _)
  refine ⟨?_, g2, g1⟩
  unfold Instr.sliceBounds
  cases vhi <;> cases vlo <;> simp_all

/-- 'x[lo:hi]'. -/
def sliceQ (P : Program) (s : St) (t : TypeId) (x : V) (lo hi : Option V) : Option V := match x with
  | .t (.str b) => if tStr P t then match sliceB hi b.size b.size with
      | some h => match sliceB lo 0 h with
        | some l => some (.t (.str (b.extract l h)))
        | none => none
      | none => none
    else none
  | .t (.sl g es) => match tElem P t with
    | some e => match tSize P e, sliceB hi es.length es.length with
      | some sz, some h => match sliceB lo 0 h with
        | some l => if h = l ∨ (es.getD l []).length = sz then some (.t (.sl g ((es.take h).drop l))) else none
        | none => none
      | _, _ => none
    | none => none
  | .own r ver off len => match tElem P t with
    | some e => match tSize P e, sliceB hi len len, s.σ[r]? with
      | some sz, some h, some (.row _ v sz' _ _) => if ver = v ∧ sz' = sz then match sliceB lo 0 h with
          | some 0 => some (.own r ver off h)
          | some (l + 1) => if h = l + 1 then some (.t (.sl 0 [])) else some (.own r ver (off + (l + 1)) (h - (l + 1)))
          | none => none
        else none
      | _, _, _ => none
    | none => none
  | .nil0 => match tElem P t with
    | some e => match tSize P e, sliceB hi 0 0 with
      | some sz, some h => match sliceB lo 0 h with | some _ => some .nil0 | none => none
      | _, _ => none
    | none => none
  | _ => none
theorem sliceQ_sound {P : Program} {w0 : World} {av0 X : Nat → Prop} {N : Nat} {a : Act} {w : World} {s : St} (hi : Inv w0 av0 X N a w s) {t : TypeId} {x v : V} {lo hi' : Option V} {vx : Value} {vlo vhi : Option Value}
    (h : sliceQ P s t x lo hi' = some v) (hx : VR w X s.σ x vx)
    (rlo : OVR w X s.σ lo vlo) (rhi : OVR w X s.σ hi' vhi) :
    ∃ val, (Instr.sliceAt t vx vlo vhi none).run P w = .ok val w ∧ VR w X s.σ v val := by
  unfold sliceQ at h
  split at h
  · rename_i b
    split at h
    · rename_i ht
      split at h
      · rename_i hh h1
        split at h
        · rename_i l h2
          simp only [Option.some.injEq] at h
          subst h
          rw [hx.str_inv]
          obtain ⟨hr, _, _⟩ := run_sliceBounds (P := P) (isS := false) (Nat.le_refl _) rfl h1 h2 rlo rhi
          refine ⟨.string (b.extract l hh), ?_, .t (.str _)⟩
          simp [Instr.sliceAt, Instr.slice, run_underlying (tStr_spec ht), hr]
        · cases h
      · cases h
    · cases h
  · rename_i g es
    split at h
    · rename_i e he
      split at h
      · rename_i sz hh hsz h1
        split at h
        · rename_i l h2
          split at h
          · rename_i hc
            simp only [Option.some.injEq] at h
            subst h
            cases hx with
            | t hx =>
            have hu := tElem_spec he
            cases hx with
            | nil g a c =>
              obtain ⟨hr, hl1, hl2⟩ := run_sliceBounds (P := P) (w := w) (isS := true) (cap := c) (Nat.zero_le _) rfl h1 h2 rlo rhi
              have hl2' : hh ≤ 0 := hl2
              obtain rfl : hh = 0 := by omega
              obtain rfl : l = 0 := by omega
              refine ⟨.slice a 0 c, ?_, .t (.nil _ _ _)⟩
              simp [Instr.sliceAt, Instr.slice, run_underlying hu, run_sizeOf hsz, hr]
              cases a <;> simp [Addr.add]
            | sl g es off c sz' cell hc' hg ha hl hcell hr' =>
              obtain ⟨hr, hl1, hl2⟩ := run_sliceBounds (P := P) (w := w) (isS := true) (cap := c) hc' rfl h1 h2 rlo rhi
              by_cases heq : hh = l
              · subst heq
                have e0 : (es.take hh).drop hh = [] := by simp
                rw [e0]
                refine ⟨.slice (if c = hh then some ⟨g, off, none⟩ else (some ⟨g, off, none⟩ : Option Addr).map (·.add (hh * sz))) 0 (c - hh), ?_, .t (.nil _ _ _)⟩
                simp [Instr.sliceAt, Instr.slice, run_underlying hu, run_sizeOf hsz, hr]
              · have hs := hc.resolve_left heq
                have hll : l < es.length := by omega
                have hge : es[l]? = some (es.getD l []) := by rw [List.getD_eq_getElem?_getD, List.getElem?_eq_getElem hll]; rfl
                obtain rfl : sz' = sz := by rw [← hs]; exact (hl _ _ hge).symm
                have hlen : ((es.take hh).drop l).length = hh - l := by simp; omega
                refine ⟨.slice (some ⟨g, off + l * sz', none⟩) (hh - l) (c - l), ?_, .t ?_⟩
                · have : ¬ c = l := by omega
                  simp [Instr.sliceAt, Instr.slice, run_underlying hu, run_sizeOf hsz, hr, this, addr_add]
                · rw [← hlen]
                  refine .sl g _ _ _ sz' (fun i j => cell (l + i) j) (by rw [hlen]; omega) hg ha (fun i e' hi' => ?_) (fun i j e' t' hi' hj => ?_) (fun i j e' t' hi' hj => ?_)
                  all_goals
                    rw [List.getElem?_drop, List.getElem?_take] at hi'
                    split at hi'
                    case isFalse => cases hi'
                  · exact hl _ _ hi'
                  · have := hcell _ j _ t' hi' hj
                    rw [← this]
                    congr 2
                    rw [Nat.add_mul]
                    omega
                  · exact hr' _ j _ t' hi' hj
          · cases h
        · cases h
      · cases h
    · cases h
  · rename_i r ver off len
    split at h
    · rename_i e he
      have hu := tElem_spec he
      split at h
      · rename_i sz hh g' v' sz' n' es' hsz h1 hσ
        split at h
        · rename_i hb
          obtain ⟨rfl, rfl⟩ := hb
          cases hx with
          | @own _ _ _ _ g2 v2 sz2 n2 es2 _ h2' hv2 h1c hp2 =>
          rw [hσ] at h2'
          simp only [Option.some.injEq, Ob.row.injEq] at h2'
          obtain ⟨rfl, rfl, rfl, rfl, rfl⟩ := h2'
          obtain ⟨c, rfl, hc1, hc2, hc3⟩ := hp2 rfl
          split at h
          · rename_i h2
            simp only [Option.some.injEq] at h
            subst h
            obtain ⟨hr, hl1, hl2⟩ := run_sliceBounds (P := P) (w := w) (isS := true) (cap := c) hc1 rfl h1 h2 rlo rhi
            refine ⟨.slice (some ⟨g', off * sz', none⟩) hh c, ?_, .own hσ (Nat.le_refl _) rfl (fun _ => ⟨c, rfl, by omega, hc2, by omega⟩)⟩
            simp [Instr.sliceAt, Instr.slice, run_underlying hu, run_sizeOf hsz, hr, Addr.add]
          · rename_i l h2
            obtain ⟨hr, hl1, hl2⟩ := run_sliceBounds (P := P) (w := w) (isS := true) (cap := c) hc1 rfl h1 h2 rlo rhi
            split at h
            · rename_i heq
              simp only [Option.some.injEq] at h
              subst h
              subst heq
              refine ⟨.slice (if c = l + 1 then some ⟨g', off * sz', none⟩ else (some ⟨g', off * sz', none⟩ : Option Addr).map (·.add ((l + 1) * sz'))) 0 (c - (l + 1)), ?_, .t (.nil _ _ _)⟩
              simp [Instr.sliceAt, Instr.slice, run_underlying hu, run_sizeOf hsz, hr]
            · rename_i hne
              simp only [Option.some.injEq] at h
              subst h
              refine ⟨.slice (some ⟨g', (off + (l + 1)) * sz', none⟩) (hh - (l + 1)) (c - (l + 1)), ?_, .own hσ (Nat.le_refl _) rfl (fun _ => ⟨c - (l + 1), rfl, by omega, ?_, by omega⟩)⟩
              · have : ¬ c = l + 1 := by omega
                simp [Instr.sliceAt, Instr.slice, run_underlying hu, run_sizeOf hsz, hr, this, addr_add, Nat.add_mul]
              · have : off + (l + 1) + (c - (l + 1)) = off + c := by omega
                rw [this]
                exact hc2
          · cases h
        · cases h
      · cases h
    · cases h
  · split at h
    · rename_i e he
      have hu := tElem_spec he
      split at h
      · rename_i sz hh hsz h1
        split at h
        · rename_i l h2
          simp only [Option.some.injEq] at h
          subst h
          cases hx with
          | nil0 a =>
          obtain ⟨hr, hl1, hl2⟩ := run_sliceBounds (P := P) (w := w) (isS := true) (cap := 0) (Nat.le_refl _) rfl h1 h2 rlo rhi
          obtain rfl : hh = 0 := by omega
          obtain rfl : l = 0 := by omega
          refine ⟨.slice a 0 0, ?_, .nil0 _⟩
          simp [Instr.sliceAt, Instr.slice, run_underlying hu, run_sizeOf hsz, hr]
        · cases h
      · cases h
    · cases h
  · cases h

/-! ### the rest -/
def nilCheckQ (s : St) (x : V) : Option V := match x with
  | .ptr r ver i j => if s.live (.ptr r ver i j) then some (.ptr r ver i j) else none
  | .fz e j => some (.fz e j)
  | .fn f caps => some (.fn f caps)
  | _ => none
def extractQ (x : V) (i : Nat) : Option V := match x with | .tup vs => vs[i]? | _ => none
def lenQ (P : Program) (s : St) (t : TypeId) (x : V) : Option V := match x with
  | .t (.str b) => if tStr P t then some (.t (.int .i64 b.size)) else none
  | .t (.sl _ es) => match tElem P t with | some _ => some (.t (.int .i64 es.length)) | none => none
  | .own r ver off len => if s.live (.own r ver off len) then match tElem P t with | some _ => some (.t (.int .i64 len)) | none => none else none
  | .nil0 => match tElem P t with | some _ => some (.t (.int .i64 0)) | none => none
  | _ => none
def capQ (P : Program) (t : TypeId) (x : V) : Option V := match x with
  | .nil0 => match tElem P t with | some _ => some (.t (.int .i64 0)) | none => none
  | _ => none
def maxQ (x y : V) : Option V := match x, y with
  | .t (.int k a), .t (.int _ b) => some (.t (.int k (if b > a then b else a)))
  | _, _ => none
def minQ (x y : V) : Option V := match x, y with
  | .t (.int k a), .t (.int _ b) => some (.t (.int k (if b < a then b else a)))
  | _, _ => none
/-- Parts laid into a struct's cells. -/
def fillQ (P : Program) (t : TypeId) (cells : List V) : List (Nat × V) → Option (List V)
  | [] => some cells
  | (i, v) :: rest => match tField P t i with
    | some (off, ft) => match tSize P ft with
      | some n => if v.solid = true ∧ v.cells.length = n ∧ off + n ≤ cells.length then fillQ P t (setV cells off v.cells) rest else none
      | none => none
    | none => none
def buildQ (P : Program) (t : TypeId) (parts : List (Nat × V)) : Option V := match tZero P t with
  | some z => match fillQ P t z parts with | some cs => some (.agg cs) | none => none
  | none => none

theorem nilCheckQ_sound {w0 : World} {av0 X : Nat → Prop} {N : Nat} {a : Act} {w : World} {s : St} (hi : Inv w0 av0 X N a w s) {x v : V} {vx : Value}
    (h : nilCheckQ s x = some v) (hx : VR w X s.σ x vx) : v = x ∧ vx ≠ .nilIface ∧ vx ≠ .nilFunc ∧ (∃ a, vx = .pointer (some a)) ∨ v = x ∧ ∃ f caps, vx = .func (.func f) #[] caps := by
  unfold nilCheckQ at h
  split at h
  · rename_i r ver i j
    split at h
    · rename_i hl
      simp only [Option.some.injEq] at h
      cases hx with
      | @ptr _ _ _ _ g v2 sz2 n2 es2 _ h2 hv2 h1c hp2 =>
        have hv : ver = v2 := by simpa [St.live, h2] using hl
        rw [hp2 hv]
        exact .inl ⟨h.symm, by simp, by simp, _, rfl⟩
    · cases h
  · simp only [Option.some.injEq] at h
    cases hx with
    | fz hb ha hc hr => exact .inl ⟨h.symm, by simp, by simp, _, rfl⟩
  · simp only [Option.some.injEq] at h
    cases hx with
    | fn hl hr => exact .inr ⟨h.symm, _, _, rfl⟩
  · cases h

theorem extractQ_sound {P : Program} {w : World} {X : Nat → Prop} {σ : List Ob} {x v : V} {i : Nat} {vx : Value}
    (h : extractQ x i = some v) (hx : VR w X σ x vx) : ∃ val, (Instr.extract vx i).run P w = .ok val w ∧ VR w X σ v val := by
  unfold extractQ at h
  split at h
  · rename_i vs
    cases hx with
    | @tup _ as hl hr =>
      have h2 := (List.getElem?_eq_some_iff.1 h).1
      have h3 : i < as.size := by omega
      have h1 := hr _ _ h
      exact ⟨as[i], by simp [Instr.extract, h3], by simpa [h3] using h1⟩
  · cases h

theorem lenQ_sound {P : Program} {w0 : World} {av0 X : Nat → Prop} {N : Nat} {a : Act} {w : World} {s : St} (hi : Inv w0 av0 X N a w s) {t ty : TypeId} {ts : Array TypeId} {x v : V} {vx : Value}
    (ht : ts[0]? = some t) (h : lenQ P s t x = some v) (hx : VR w X s.σ x vx) : ∃ val, (Builtin.len_ ts ty #[vx]).run P w = .ok val w ∧ VR w X s.σ v val := by
  unfold lenQ at h
  split at h
  · split at h
    · rename_i hs
      simp only [Option.some.injEq] at h
      subst h
      rw [hx.str_inv]
      refine ⟨_, ?_, .t (.int _ _)⟩
      simp [Builtin.len_, ht, run_underlying (tStr_spec hs), goInt]
    · cases h
  · rename_i g es
    split at h
    · rename_i e he
      simp only [Option.some.injEq] at h
      subst h
      refine ⟨.int .i64 es.length, ?_, .t (.int _ _)⟩
      cases hx with
      | t hx => cases hx <;> simp [Builtin.len_, ht, run_underlying (tElem_spec he), goInt]
    · cases h
  · rename_i r ver off len
    split at h
    · rename_i hl
      split at h
      · rename_i e he
        simp only [Option.some.injEq] at h
        subst h
        refine ⟨.int .i64 len, ?_, .t (.int _ _)⟩
        cases hx with
        | @own _ _ _ _ g2 v2 sz2 n2 es2 _ h2 hv2 h1c hp2 =>
          have hv : ver = v2 := by simpa [St.live, h2] using hl
          obtain ⟨c, rfl, _⟩ := hp2 hv
          simp [Builtin.len_, ht, run_underlying (tElem_spec he), goInt]
      · cases h
    · cases h
  · split at h
    · rename_i e he
      simp only [Option.some.injEq] at h
      subst h
      refine ⟨.int .i64 0, ?_, .t (.int _ _)⟩
      cases hx with
      | nil0 a => simp [Builtin.len_, ht, run_underlying (tElem_spec he), goInt]
    · cases h
  · cases h
theorem capQ_sound {P : Program} {w : World} {X : Nat → Prop} {σ : List Ob} {t ty : TypeId} {ts : Array TypeId} {x v : V} {vx : Value}
    (ht : ts[0]? = some t) (h : capQ P t x = some v) (hx : VR w X σ x vx) : ∃ val, (Builtin.cap_ ts ty #[vx]).run P w = .ok val w ∧ VR w X σ v val := by
  unfold capQ at h
  split at h
  · split at h
    · rename_i e he
      simp only [Option.some.injEq] at h
      subst h
      refine ⟨.int .i64 0, ?_, .t (.int _ _)⟩
      cases hx with
      | nil0 a => simp [Builtin.cap_, ht, run_underlying (tElem_spec he), goInt]
    · cases h
  · cases h
theorem maxQ_sound {P : Program} {w : World} {X : Nat → Prop} {σ : List Ob} {ty : TypeId} {ts : Array TypeId} {x y v : V} {vx vy : Value}
    (h : maxQ x y = some v) (hx : VR w X σ x vx) (hy : VR w X σ y vy) : ∃ val, (Builtin.max_ ts ty #[vx, vy]).run P w = .ok val w ∧ VR w X σ v val := by
  unfold maxQ at h
  split at h
  · simp only [Option.some.injEq] at h
    subst h
    rw [hx.int_inv, hy.int_inv]
    exact ⟨_, by simp [Builtin.max_, Builtin.max2], .t (.int _ _)⟩
  · cases h
theorem minQ_sound {P : Program} {w : World} {X : Nat → Prop} {σ : List Ob} {ty : TypeId} {ts : Array TypeId} {x y v : V} {vx vy : Value}
    (h : minQ x y = some v) (hx : VR w X σ x vx) (hy : VR w X σ y vy) : ∃ val, (Builtin.min_ ts ty #[vx, vy]).run P w = .ok val w ∧ VR w X σ v val := by
  unfold minQ at h
  split at h
  · simp only [Option.some.injEq] at h
    subst h
    rw [hx.int_inv, hy.int_inv]
    exact ⟨_, by simp [Builtin.min_, Builtin.min2], .t (.int _ _)⟩
  · cases h

theorem VRs.set {w : World} {X : Nat → Prop} {σ : List Ob} {cs vs : List V} {as : Array Value} {us : Array Value} {off : Nat} (h : VRs w X σ cs as) (k : VRs w X σ vs us) :
    VRs w X σ (setV cs off vs) (us.zipIdx.foldl (fun cs (c, j) => cs.setIfInBounds (off + j) c) as) := by
  have e : us.zipIdx.foldl (fun cs (c, j) => cs.setIfInBounds (off + j) c) as = (us.toList.zipIdx 0).foldl (fun cs (p : Value × Nat) => cs.setIfInBounds (off + p.2) p.1) as := by
    rw [← Array.foldl_toList, Array.toList_zipIdx]
  rw [e]
  refine ⟨by rw [foldl_set_size, setV_length]; exact h.1, fun i c hc => ?_⟩
  rw [setV_get] at hc
  rw [Array.getD_eq_getD_getElem?, foldl_set_get]
  have h1 := h.1
  have k1 := k.1
  simp only [Nat.add_zero, Array.length_toList]
  by_cases hin : off ≤ i ∧ i < off + vs.length ∧ i < cs.length
  · rw [if_pos hin] at hc
    rw [if_pos ⟨by omega, by omega, by omega⟩]
    have := k.2 _ c hc
    rw [Array.getD_eq_getD_getElem?] at this
    simpa using this
  · rw [if_neg hin] at hc
    rw [if_neg (by omega)]
    have := h.2 _ c hc
    rwa [Array.getD_eq_getD_getElem?] at this

theorem fillQ_sound {P : Program} {w : World} {X : Nat → Prop} {σ : List Ob} {t : TypeId} {fs : Array Field} (hu : P.underlying t = some (.struct fs)) (places : Array (Nat × Nat)) 
    (hp : ∀ (i : Nat) (f : Field) (n : Nat), fs[i]? = some f → tSize P f.type = some n → places[i]? = some (f.offset, n)) :
    ∀ (parts : List (Nat × V)) (vparts : List (Nat × Value)) (cells cs : List V) (vcells : Array Value), vparts.length = parts.length → (∀ (k i : Nat) (x : V), parts[k]? = some (i, x) → ∃ y, vparts[k]? = some (i, y) ∧ VR w X σ x y) →
      VRs w X σ cells vcells → fillQ P t cells parts = some cs → ∃ vcs, Instr.fill (places[·]?) vcells vparts = some vcs ∧ VRs w X σ cs vcs
  | [], vparts, cells, cs, vcells, hl, hr, hc, h => by
    simp only [fillQ, Option.some.injEq] at h
    subst h
    obtain rfl : vparts = [] := List.length_eq_zero_iff.1 (by simpa using hl)
    exact ⟨vcells, rfl, hc⟩
  | (i, v) :: rest, vparts, cells, cs, vcells, hl, hr, hc, h => by
    obtain ⟨y, hy, hv⟩ := hr 0 i v rfl
    match vparts, hl, hy, hr with
    | (i', y') :: vrest, hl, hy, hr =>
    simp only [List.getElem?_cons_zero, Option.some.injEq, Prod.mk.injEq] at hy
    obtain ⟨rfl, rfl⟩ := hy
    simp only [fillQ] at h
    split at h
    · rename_i off ft hf
      obtain ⟨fs', x, n, hu', hfx, rfl, rfl, hn⟩ := tField_spec hf
      rw [hu] at hu'
      simp only [Option.some.injEq, TypeDesc.struct.injEq] at hu'
      subst hu'
      split at h
      · rename_i m hm
        split at h
        · rename_i hb
          obtain ⟨hs, h1, h2⟩ := hb
          have hcell := hv.cells (V.solid_or hs)
          have hpl := hp i' x m hfx hm
          obtain ⟨vcs, h3, h4⟩ := fillQ_sound hu places hp rest vrest _ cs _ (by simpa using hl) (fun k i x hx => hr (k + 1) i x hx) (hc.set (off := x.offset) hcell) h
          refine ⟨vcs, ?_, h4⟩
          simp only [Instr.fill, hpl]
          have e1 := hcell.1
          have e2 := hc.1
          have e3 : (decide (y'.cells.size ≠ m) || decide (x.offset + y'.cells.size > vcells.size)) = false := by
            rw [Bool.or_eq_false_iff]
            exact ⟨decide_eq_false (by omega), decide_eq_false (by omega)⟩
          rw [e3]
          exact h3
        · cases h
      · cases h
    · cases h

theorem run_mapM_places {P : Program} {w : World} : ∀ (fs : List Field), (∀ f ∈ fs, (P.info? f.type).isSome) →
    (fs.mapM (fun f => do pure (f.offset, ← sizeOf f.type) : Field → Sem (Nat × Nat))).run P w = .ok (fs.map fun f => (f.offset, ((tSize P f.type).getD 0))) w
  | [], _ => rfl
  | f :: fs, h => by
    obtain ⟨i, hi⟩ := Option.isSome_iff_exists.1 (h f (by simp))
    have hs : tSize P f.type = some i.size := by simp [tSize, hi]
    rw [List.mapM_cons]
    simp only [Sem.run_bind, run_sizeOf hs, Result.andThen_ok, Sem.run_pure, run_mapM_places fs (fun f hf => h f (by simp [hf]))]
    simp [hs]

theorem buildQ_sound {P : Program} {w : World} {X : Nat → Prop} {σ : List Ob} {t : TypeId} {fs : Array Field} (hu : P.underlying t = some (.struct fs)) (hfs : ∀ f ∈ fs.toList, (P.info? f.type).isSome)
    {parts : List (Nat × V)} {vparts : Array (Nat × Value)} {v : V} (hl : vparts.size = parts.length) (hr : ∀ (k i : Nat) (x : V), parts[k]? = some (i, x) → ∃ y, vparts[k]? = some (i, y) ∧ VR w X σ x y)
    (h : buildQ P t parts = some v) : ∃ val, (Instr.build t vparts).run P w = .ok val w ∧ VR w X σ v val := by
  unfold buildQ at h
  split at h
  · rename_i z hz
    split at h
    · rename_i cs hcs
      simp only [Option.some.injEq] at h
      subst h
      unfold tZero at hz
      cases hi : P.info? t with
      | none => simp [hi] at hz
      | some inf =>
        simp only [hi] at hz
        cases hzz : inf.zero with
        | none => simp [hzz] at hz
        | some zv =>
          simp only [hzz, Option.some.injEq] at hz
          subst hz
          have hzr : (zeroValue t).run P w = .ok zv w := by simp [zeroValue, run_typeInfo hi, hzz]
          have hm := run_mapM_places (P := P) (w := w) fs.toList hfs
          have hm2 : (fs.mapM (fun f => do pure (f.offset, ← sizeOf f.type) : Field → Sem (Nat × Nat))).run P w = .ok (fs.map fun f => (f.offset, (tSize P f.type).getD 0)) w := by
            rw [Array.mapM_eq_mapM_toList]
            simp only [Sem.run_map, hm, Result.andThen_ok]
            rw [← Array.toList_map]
          have hc0 : VRs w X σ (zv.cells.toList.map V.ofLeaf) zv.cells := by
            refine ⟨by simp, fun i c hc => ?_⟩
            rw [List.getElem?_map] at hc
            obtain ⟨c0, h0, rfl⟩ := Option.map_eq_some_iff.1 hc
            rw [Array.getElem?_toList] at h0
            rw [Array.getD_eq_getD_getElem?, h0]
            exact VR.ofLeaf _ _ _ _
          obtain ⟨vcs, h1, h2⟩ := fillQ_sound hu (fs.map fun f => (f.offset, (tSize P f.type).getD 0)) (fun i f n hf hn => by simp [hf, hn]) parts vparts.toList _ cs _ (by simpa using hl)
            (fun k i x hx => by simpa using hr k i x hx) hc0 hcs
          refine ⟨.agg vcs, ?_, .agg h2.1 h2.2⟩
          simp only [Instr.build, Sem.run_bind, hzr, Result.andThen_ok, run_underlying hu, hm2, h1]
          rfl
    · cases h
  · cases h

def tFields (P : Program) (t : TypeId) : Bool := match P.underlying t with | some (.struct fs) => fs.toList.all fun f => (P.info? f.type).isSome | _ => false
theorem tFields_spec {P : Program} {t : TypeId} (h : tFields P t = true) : ∃ fs, P.underlying t = some (.struct fs) ∧ ∀ f ∈ fs.toList, (P.info? f.type).isSome := by
  unfold tFields at h
  split at h
  · rename_i fs hu
    exact ⟨fs, hu, fun f hf => List.all_eq_true.1 h f hf⟩
  · cases h

/-! ### maps from strings -/
def isStrT : T → Bool | .str _ => true | _ => false
/-- The first entry of a key. -/
def findV (b : ByteArray) : List (T × V) → Option V
  | [] => none
  | (.str a, v) :: l => if a = b then some v else findV b l
  | _ :: l => findV b l
def mKey (P : Program) (t : TypeId) : Bool := match P.underlying t with | some (.map k _) => tStr P k | _ => false
/-- The zero of a map's elements, whole numbers. -/
def mZero (P : Program) (t : TypeId) : Option V := match P.underlying t with
  | some (.map _ e) => match P.info? e with
    | some i => match i.zero with | some (.int k n) => some (.t (.int k n)) | _ => none
    | none => none
  | _ => none
def lookupQ (P : Program) (s : St) (t : TypeId) (m k : V) (ok : Bool) : Option V := match m, k with
  | .map r, .t (.str b) => match s.σ[r]? with
    | some (.map _ es) => if mKey P t = true ∧ (es.all fun p => isStrT p.1) = true then match mZero P t with
        | some z => some (match findV b es with | some x => if ok then .tup [x, .t (.bool true)] else x | none => if ok then .tup [z, .t (.bool false)] else z)
        | none => none
      else none
    | _ => none
  | _, _ => none
theorem mKey_spec {P : Program} {t : TypeId} (h : mKey P t = true) : ∃ k e, P.underlying t = some (.map k e) ∧ P.underlying k = some .string := by
  unfold mKey at h
  split at h
  · rename_i k e hu
    refine ⟨k, e, hu, ?_⟩
    unfold tStr at h
    split at h
    · assumption
    · cases h
  · cases h
theorem findNow_es {w : World} {X : Nat → Prop} {σ : List Ob} {b : ByteArray} : ∀ (es : List (T × V)) (l : List MapEntry) (i : Nat), l.length = es.length →
    (∀ (j : Nat) (k : T) (x : V), es[j]? = some (k, x) → ∃ e : MapEntry, l[j]? = some e ∧ k.plain = some e.key ∧ VR w X σ x e.val) → (es.all fun p => isStrT p.1) = true →
    (findV b es = none → Instr.findNow .string (.string b) l i = some none) ∧ ∀ x, findV b es = some x → ∃ j v, Instr.findNow .string (.string b) l i = some (some (j, v)) ∧ VR w X σ x v
  | [], l, i, hl, h, ha => by
    cases l with
    | nil => exact ⟨fun _ => rfl, fun x hx => (by cases hx)⟩
    | cons e l => simp at hl
  | (k, x) :: es, l, i, hl, h, ha => by
    cases l with
    | nil => simp at hl
    | cons e l =>
      obtain ⟨e0, h1, h2, h3⟩ := h 0 k x rfl
      simp only [List.getElem?_cons_zero, Option.some.injEq] at h1
      subst h1
      simp only [List.all_cons, Bool.and_eq_true] at ha
      cases k <;> simp only [isStrT, Bool.false_eq_true, false_and] at ha
      rename_i a
      have hk : e.key = .string a := by simpa [T.plain] using h2.symm
      have ih := findNow_es (b := b) es l (i + 1) (by simpa using hl) (fun j k x hx => by have := h (j + 1) k x (by simpa using hx); simpa using this) ha.2
      unfold findV Instr.findNow
      rw [hk]
      by_cases hab : a = b
      · subst hab
        have hs : Instr.sameNow .string (.string a) (.string a) = some true := by
          show some (a == a) = some true
          rw [(MapKept.bytes_beq a a).2 rfl]
        rw [if_pos rfl, hs]
        exact ⟨fun h => (by cases h), fun y hy => ⟨i, e.val, rfl, (by cases hy; exact h3)⟩⟩
      · have hs : Instr.sameNow .string (.string b) (.string a) = some false := by
          show some (b == a) = some false
          cases hb : b == a with
          | false => rfl
          | true => exact absurd ((MapKept.bytes_beq b a).1 hb).symm hab
        rw [if_neg hab, hs]
        exact ih
theorem lookupQ_sound {P : Program} {w0 : World} {av0 X : Nat → Prop} {N : Nat} {a : Act} {w : World} {s : St} (hi : Inv w0 av0 X N a w s) {t : TypeId} {m k v : V} {vm vk : Value} {ok : Bool}
    (h : lookupQ P s t m k ok = some v) (hm : VR w X s.σ m vm) (hk : VR w X s.σ k vk) : ∃ val, (Instr.lookup t vm vk ok).run P w = .ok val w ∧ VR w X s.σ v val := by
  unfold lookupQ at h
  split at h
  · rename_i r b
    split at h
    · rename_i g es hσ
      split at h
      · rename_i hc
        split at h
        · rename_i z hz
          simp only [Option.some.injEq] at h
          obtain ⟨kt, et, hu, hks⟩ := mKey_spec hc.1
          obtain ⟨kk, n, rfl, hzr⟩ : ∃ kk n, z = .t (.int kk n) ∧ (zeroValue et).run P w = .ok (.int kk n) w := by
            unfold mZero at hz
            rw [hu] at hz
            simp only at hz
            split at hz
            · rename_i inf hinf
              split at hz
              · rename_i kk n hzz
                simp only [Option.some.injEq] at hz
                exact ⟨kk, n, hz.symm, by simp [zeroValue, run_typeInfo hinf, hzz]⟩
              · cases hz
            · cases hz
          cases hm with
          | @map _ g' es' h1 =>
          rw [hσ] at h1
          simp only [Option.some.injEq, Ob.map.injEq] at h1
          obtain ⟨rfl, rfl⟩ := h1
          cases hk with
          | t hk =>
          cases hk with
          | str =>
          obtain ⟨ents, clock, hb, hsz, hent⟩ := hi.hp.obj r _ hσ
          have hfn := findNow_es (w := w) (X := X) (σ := s.σ) (b := b) es ents.toList 0 (by simpa using hsz) (fun j k x hx => by obtain ⟨e, h1, h2⟩ := hent j k x hx; exact ⟨e, by rw [Array.getElem?_toList]; exact h1, h2⟩) hc.2
          have hck : (Instr.checkKey ents.isEmpty 10000 kt (.string b)).run P w = .ok () w := MapKept.run_checkKey (k := .string b) hks (by simp [MapKept.IsKey]) ents.isEmpty 9999
          cases hf : findV b es with
          | none =>
            rw [hf] at h
            have h2 := MapKept.run_findKey (P := P) (w := w) hks (hfn.1 hf)
            refine ⟨if ok then .tuple #[.int kk n, .bool false] else .int kk n, ?_, ?_⟩
            · simp [Instr.lookup, run_underlying hu, MapKept.run_getObj_map hb, hck, h2, hzr, Result.andThen]
            · subst h
              cases ok with
              | false => exact .t (.int _ _)
              | true =>
                refine .tup rfl (fun i c hc => ?_)
                match i, hc with
                | 0, hc => cases hc; exact .t (.int _ _)
                | 1, hc => cases hc; exact .t (.bool _)
                | i + 2, hc => simp at hc
          | some x =>
            rw [hf] at h
            obtain ⟨j, y, h3, h4⟩ := hfn.2 x hf
            have h2 := MapKept.run_findKey (P := P) (w := w) hks h3
            refine ⟨if ok then .tuple #[y, .bool true] else y, ?_, ?_⟩
            · simp [Instr.lookup, run_underlying hu, MapKept.run_getObj_map hb, hck, h2, Result.andThen]
            · subst h
              cases ok with
              | false => exact h4
              | true =>
                refine .tup rfl (fun i c hc => ?_)
                match i, hc with
                | 0, hc => cases hc; exact h4
                | 1, hc => cases hc; exact .t (.bool _)
                | i + 2, hc => simp at hc
        · cases h
      · cases h
    · cases h
  · cases h

def isConst : Operand → Bool | .const _ => true | _ => false

/-- Is this an operation that changes nothing but its own slot? -/
def isQuiet : Op → Bool
  | .move _ | .assign _ | .pick .. | .load .. | .nilCheck _ | .binOp .. | .unOp .. | .convert .. | .makeFunc .. | .fieldAddr .. | .field .. | .indexAddr .. | .index .. | .extract .. | .build .. | .lookup .. => true
  | .slice _ _ _ _ m => m.isNone
  | .call { callee := .builtin .len, .. } => true
  | .call { callee := .builtin .cap, .. } => true
  | .call { callee := .builtin .max, .. } => true
  | .call { callee := .builtin .min, .. } => true
  | _ => false

/-- What a quiet operation gives. -/
def evalQ (P : Program) (s : St) : Op → Option V
  | .move x => some (s.eval x)
  | .assign x => some (s.eval x)
  | .pick c a b => match s.eval c with | .t (.bool true) => some (s.eval a) | .t (.bool false) => some (s.eval b) | _ => none
  | .load t a => loadQ P s t (s.eval a)
  | .nilCheck x => nilCheckQ s (s.eval x)
  | .binOp op t x y _ => opQ P op t (s.eval x) (s.eval y) (isConst y)
  | .unOp op _ x => opU op (s.eval x)
  | .convert src dst x => convQ P s src dst (s.eval x)
  | .makeFunc fn first captured => match fn with | .func f => if first.isEmpty then some (.fn f (captured.toList.map s.eval)) else none | _ => none
  | .fieldAddr t x f => fieldAddrQ P s t (s.eval x) f
  | .field t x f => fieldQ P t (s.eval x) f
  | .indexAddr t x i => indexAddrQ P s t (s.eval x) (s.eval i)
  | .index t x i => indexQ P t (s.eval x) (s.eval i)
  | .extract x i => extractQ (s.eval x) i
  | .lookup t m k ok => lookupQ P s t (s.eval m) (s.eval k) ok
  | .build t parts => if tFields P t then buildQ P t (parts.toList.map fun p => (p.1, s.eval p.2)) else none
  | .slice t x lo hi mx => if mx.isSome then none else sliceQ P s t (s.eval x) (lo.map s.eval) (hi.map s.eval)
  | .call c => match c.callee, c.args.toList, c.argTypes[0]? with
    | .builtin .len, [x], some t => lenQ P s t (s.eval x)
    | .builtin .cap, [x], some t => capQ P t (s.eval x)
    | .builtin .max, [x, y], _ => maxQ (s.eval x) (s.eval y)
    | .builtin .min, [x, y], _ => minQ (s.eval x) (s.eval y)
    | _, _, _ => none
  | _ => none

theorem evalQ_sound {P : Program} {w0 : World} {av0 X : Nat → Prop} {N : Nat} {a : Act} {w : World} {s : St} (hi : Inv w0 av0 X N a w s) {o : Oper} {v : V} (h : evalQ P s o.op = some v) :
    ∃ val, (execOp a.eval o).run P w = .ok (.value val) w ∧ VR w X s.σ v val := by
  obtain ⟨dst, op, ty, pos, after, guard⟩ := o
  have lift : ∀ {m : Sem Value}, (∃ val, m.run P w = .ok val w ∧ VR w X s.σ v val) → ∃ val, (do pure (Next.value (← m)) : Sem Next).run P w = .ok (.value val) w ∧ VR w X s.σ v val := fun ⟨val, h1, h2⟩ => ⟨val, by simp [h1], h2⟩
  cases op <;> simp only [evalQ] at h <;> try contradiction
  case move x => simp only [Option.some.injEq] at h; subst h; exact ⟨a.eval x, rfl, hi.eval x⟩
  case assign x => simp only [Option.some.injEq] at h; subst h; exact ⟨a.eval x, rfl, hi.eval x⟩
  case pick c x y =>
    split at h
    · rename_i hc
      simp only [Option.some.injEq] at h
      subst h
      have := (hc ▸ hi.eval c).bool_inv
      exact ⟨a.eval x, by simp [execOp, this, asBool], hi.eval x⟩
    · rename_i hc
      simp only [Option.some.injEq] at h
      subst h
      have := (hc ▸ hi.eval c).bool_inv
      exact ⟨a.eval y, by simp [execOp, this, asBool], hi.eval y⟩
    · cases h
  case load t x => exact lift (loadQ_sound hi h (hi.eval x))
  case nilCheck x =>
    rcases nilCheckQ_sound hi h (hi.eval x) with ⟨rfl, h1, h2, ad, h3⟩ | ⟨rfl, f, caps, h3⟩
    · exact ⟨a.eval x, by simp [execOp, h3], hi.eval x⟩
    · exact ⟨a.eval x, by simp [execOp, h3], hi.eval x⟩
  case binOp op t x y yt =>
    have := opQ_sound (P := P) (ox := x) (oy := y) (hi.eval x) (hi.eval y) (yc := isConst y) (fun hc => by cases y <;> simp [isConst] at hc; exact ⟨_, rfl⟩) h
    exact lift this
  case unOp op t x => exact lift (opU_sound (hi.eval x) h)
  case convert src dst x => exact lift (convQ_sound hi h (hi.eval x))
  case makeFunc fn first captured =>
    split at h
    · rename_i f
      split at h
      · rename_i hf
        simp only [Option.some.injEq] at h
        subst h
        have hf0 : first = #[] := by simpa using hf
        subst hf0
        refine ⟨.func (.func f) #[] (captured.map a.eval), by simp [execOp, Instr.makeFunc], .fn (by simp) (fun i c hc => ?_)⟩
        rw [List.getElem?_map] at hc
        obtain ⟨x, hx, rfl⟩ := Option.map_eq_some_iff.1 hc
        rw [Array.getElem?_toList] at hx
        rw [Array.getD_eq_getD_getElem?, Array.getElem?_map, hx]
        exact hi.eval x
      · cases h
    · cases h
  case fieldAddr t x f => exact lift (fieldAddrQ_sound hi h (hi.eval x))
  case field t x f => exact lift (fieldQ_sound h (hi.eval x))
  case indexAddr t x i => exact lift (indexAddrQ_sound hi h (hi.eval x) (hi.eval i))
  case index t x i => exact lift (indexQ_sound h (hi.eval x) (hi.eval i))
  case extract x i => exact lift (extractQ_sound h (hi.eval x))
  case build t parts =>
    split at h
    · rename_i ht
      obtain ⟨fs, hu, hfs⟩ := tFields_spec ht
      refine lift (buildQ_sound hu hfs (vparts := parts.map fun (i, x) => (i, a.eval x)) (by simp) (fun k i x hx => ?_) h)
      rw [List.getElem?_map] at hx
      obtain ⟨⟨i', x'⟩, hx', he⟩ := Option.map_eq_some_iff.1 hx
      simp only [Prod.mk.injEq] at he
      obtain ⟨rfl, rfl⟩ := he
      rw [Array.getElem?_toList] at hx'
      exact ⟨a.eval x', by rw [Array.getElem?_map, hx']; rfl, hi.eval x'⟩
    · cases h
  case lookup t m k ok => exact lift (lookupQ_sound hi h (hi.eval m) (hi.eval k))
  case slice t x lo hi' mx =>
    cases mx with
    | some m => simp at h
    | none =>
      simp only [Option.isSome_none, Bool.false_eq_true, if_false] at h
      have ov : ∀ (o : Option Operand), OVR w X s.σ (o.map s.eval) (o.map a.eval) := fun o => by
        cases o with
        | none => exact trivial
        | some y => exact hi.eval y
      exact lift (sliceQ_sound hi h (hi.eval x) (ov lo) (ov hi'))
  case call c =>
    obtain ⟨callee, args, ts⟩ := c
    simp only at h
    split at h
    · rename_i x t ha ht
      obtain ⟨val, h1, h2⟩ := lenQ_sound (ty := ty) hi ht h (hi.eval x)
      have hargs : args = #[x] := by rw [← Array.toArray_toList (xs := args), ha]
      subst hargs
      exact ⟨val, by simp [execOp, resolve, invoke, builtin, h1], h2⟩
    · rename_i x t ha ht
      obtain ⟨val, h1, h2⟩ := capQ_sound (P := P) (ty := ty) ht h (hi.eval x)
      have hargs : args = #[x] := by rw [← Array.toArray_toList (xs := args), ha]
      subst hargs
      exact ⟨val, by simp [execOp, resolve, invoke, builtin, h1], h2⟩
    · rename_i x y ha
      obtain ⟨val, h1, h2⟩ := maxQ_sound (P := P) (ty := ty) (ts := ts) h (hi.eval x) (hi.eval y)
      have hargs : args = #[x, y] := by rw [← Array.toArray_toList (xs := args), ha]
      subst hargs
      exact ⟨val, by simp [execOp, resolve, invoke, builtin, h1], h2⟩
    · rename_i x y ha
      obtain ⟨val, h1, h2⟩ := minQ_sound (P := P) (ty := ty) (ts := ts) h (hi.eval x) (hi.eval y)
      have hargs : args = #[x, y] := by rw [← Array.toArray_toList (xs := args), ha]
      subst hargs
      exact ⟨val, by simp [execOp, resolve, invoke, builtin, h1], h2⟩
    · cases h
end Go.VL
