/- VL, part 1: frozen data, values, objects, states, and how they stand to the machine's world. No program in sight. -/
import Derived.Orders
import Derived.Tactics
import Derived.Deep.LoopGhost
import Derived.Below
namespace Go.VL
set_option linter.unusedVariables false
set_option linter.unusedSimpArgs false

/-- Frozen data, one cell each. 'sl g es': a slice; g: its block; es: its elements, each by its cells. -/
inductive T where
  | int (k : IntKind) (n : Int)
  | bool (b : Bool)
  | str (s : ByteArray)
  | sl (g : Nat) (es : List (List T))
instance : Inhabited T := ⟨.bool false⟩

/-- Values of slots. own: a slice into object r; ptr: a pointer to cell j of element i of object r; fz: a pointer into a frozen element. -/
inductive V where
  | t (x : T)
  | nil0
  | own (r ver off len : Nat)
  | ptr (r ver i j : Nat)
  | fz (e : List T) (j : Nat)
  | fn (f : FuncId) (caps : List V)
  | map (r : Nat)
  | err (b : Bool)
  | agg (cs : List V)
  | tup (vs : List V)
  | undef
  | skip
instance : Inhabited V := ⟨.undef⟩

/-- Objects of one's own: a variable or a row of elements (g: its block, ver: how often it was appended to, sz: cells an element, n: cells of the block); a map. -/
inductive Ob where
  | row (g ver sz n : Nat) (es : List (List V))
  | map (g : Nat) (es : List (T × V))
instance : Inhabited Ob := ⟨.map 0 []⟩
def Ob.g : Ob → Nat | .row g .. => g | .map g _ => g

/-- What one's own objects may become: later versions of themselves. -/
def Ob.le : Ob → Ob → Prop
  | .row g ver sz n es, .row g' ver' sz' n' es' => ver ≤ ver' ∧ (ver = ver' → g' = g ∧ sz' = sz ∧ n' = n ∧ es'.length = es.length)
  | .map g _, .map g' _ => g' = g
  | _, _ => False
theorem Ob.le_refl (o : Ob) : o.le o := by cases o <;> simp [Ob.le]
theorem Ob.le_trans {a b c : Ob} (h : a.le b) (k : b.le c) : a.le c := by
  cases a <;> cases b <;> cases c <;> simp only [Ob.le] at * <;> try contradiction
  · obtain ⟨h1, h2⟩ := h
    obtain ⟨k1, k2⟩ := k
    refine ⟨by omega, fun e => ?_⟩
    obtain ⟨rfl, rfl, rfl, e1⟩ := h2 (by omega)
    obtain ⟨rfl, rfl, rfl, e2⟩ := k2 (by omega)
    exact ⟨rfl, rfl, rfl, by omega⟩
  · omega

mutual
def V.ren (ρ : Nat → Option Nat) : V → V
  | .own r ver off len => match ρ r with | some r' => .own r' ver off len | none => .undef
  | .ptr r ver i j => match ρ r with | some r' => .ptr r' ver i j | none => .undef
  | .map r => match ρ r with | some r' => .map r' | none => .undef
  | .fn f caps => .fn f (V.renL ρ caps)
  | .agg cs => .agg (V.renL ρ cs)
  | .tup vs => .tup (V.renL ρ vs)
  | .t x => .t x
  | .nil0 => .nil0
  | .fz e j => .fz e j
  | .err b => .err b
  | .undef => .undef
  | .skip => .skip
def V.renL (ρ : Nat → Option Nat) : List V → List V
  | [] => []
  | v :: l => V.ren ρ v :: V.renL ρ l
end
theorem V.renL_eq (ρ : Nat → Option Nat) (l : List V) : V.renL ρ l = l.map (V.ren ρ) := by
  induction l with
  | nil => rfl
  | cons v l ih => rw [V.renL, ih]; rfl
mutual
theorem V.ren_id : ∀ v : V, V.ren some v = v
  | .own .. => rfl
  | .ptr .. => rfl
  | .map _ => rfl
  | .fn f caps => by rw [V.ren, V.renL_id caps]
  | .agg cs => by rw [V.ren, V.renL_id cs]
  | .tup vs => by rw [V.ren, V.renL_id vs]
  | .t _ => rfl
  | .nil0 => rfl
  | .fz .. => rfl
  | .err _ => rfl
  | .undef => rfl
  | .skip => rfl
theorem V.renL_id : ∀ l : List V, V.renL some l = l
  | [] => rfl
  | v :: l => by rw [V.renL, V.ren_id v, V.renL_id l]
end

/-- The blocks that frozen data keep clear of: X's and those of one's own objects. -/
def AV (X : Nat → Prop) (σ : List Ob) (b : Nat) : Prop := X b ∨ ∃ (r : Nat) (o : Ob), σ[r]? = some o ∧ o.g = b

inductive FR (w : World) (av : Nat → Prop) : T → Value → Prop
  | int (k : IntKind) (n : Int) : FR w av (.int k n) (.int k n)
  | bool (b : Bool) : FR w av (.bool b) (.bool b)
  | str (s : ByteArray) : FR w av (.str s) (.string s)
  | nil (g : Nat) (a : Option Addr) (c : Nat) : FR w av (.sl g []) (.slice a 0 c)
  | sl (g : Nat) (es : List (List T)) (off c sz : Nat) (cell : Nat → Nat → Value) (hc : es.length ≤ c) (hg : g < w.heap.size) (ha : ¬ av g) (hl : ∀ (i : Nat) (e : List T), es[i]? = some e → e.length = sz)
      (hcell : ∀ (i j : Nat) (e : List T) (t : T), es[i]? = some e → e[j]? = some t → w.cell? ⟨g, off + i * sz + j, none⟩ = some (cell i j))
      (hr : ∀ (i j : Nat) (e : List T) (t : T), es[i]? = some e → e[j]? = some t → FR w av t (cell i j)) : FR w av (.sl g es) (.slice (some ⟨g, off, none⟩) es.length c)

theorem cell?_congr {w w' : World} {a : Addr} (h : w'.heap[a.block]? = w.heap[a.block]?) : w'.cell? a = w.cell? a := by
  unfold World.cell?; rw [h]

theorem FR.mono {w w' : World} {av av' : Nat → Prop} {x : T} {v : Value} (h : FR w av x v) (hs : w.heap.size ≤ w'.heap.size)
    (hw : ∀ b, ¬ av b → b < w.heap.size → w'.heap[b]? = w.heap[b]?) (ha : ∀ b, ¬ av b → b < w.heap.size → ¬ av' b) : FR w' av' x v := by
  induction h with
  | int => exact .int _ _
  | bool => exact .bool _
  | str => exact .str _
  | nil => exact .nil _ _ _
  | sl g es off c sz cell hc hg h1 hl hcell hr ih =>
    exact .sl g es off c sz cell hc (Nat.lt_of_lt_of_le hg hs) (ha g h1 hg) hl
      (fun i j e t he ht => by rw [cell?_congr (hw g h1 hg)]; exact hcell i j e t he ht) ih

/-- A key of a map as a machine's value. -/
def T.plain : T → Option Value
  | .int k n => some (.int k n)
  | .bool b => some (.bool b)
  | .str s => some (.string s)
  | .sl .. => none

inductive VR (w : World) (X : Nat → Prop) (σ : List Ob) : V → Value → Prop
  | t {x : T} {v : Value} (h : FR w (AV X σ) x v) : VR w X σ (.t x) v
  | nil0 (a : Option Addr) : VR w X σ .nil0 (.slice a 0 0)
  | own {r ver off len g ver' sz n : Nat} {es : List (List V)} {v : Value} (h : σ[r]? = some (.row g ver' sz n es)) (hv : ver ≤ ver') (h1 : v.oneCell' = true)
      (hp : ver = ver' → ∃ c, v = .slice (some ⟨g, off * sz, none⟩) len c ∧ len ≤ c ∧ (off + c) * sz ≤ n ∧ off + len ≤ es.length) : VR w X σ (.own r ver off len) v
  | ptr {r ver i j g ver' sz n : Nat} {es : List (List V)} {v : Value} (h : σ[r]? = some (.row g ver' sz n es)) (hv : ver ≤ ver') (h1 : v.oneCell' = true)
      (hp : ver = ver' → v = .pointer (some ⟨g, i * sz + j, none⟩)) : VR w X σ (.ptr r ver i j) v
  | fz {e : List T} {j b off : Nat} {cell : Nat → Value} (hb : b < w.heap.size) (ha : ¬ AV X σ b) (hc : ∀ (k : Nat) (t : T), e[k]? = some t → w.cell? ⟨b, off + k, none⟩ = some (cell k))
      (hr : ∀ (k : Nat) (t : T), e[k]? = some t → FR w (AV X σ) t (cell k)) : VR w X σ (.fz e j) (.pointer (some ⟨b, off + j, none⟩))
  | fn {f : FuncId} {caps : List V} {vs : Array Value} (hl : vs.size = caps.length) (hr : ∀ (i : Nat) (c : V), caps[i]? = some c → VR w X σ c (vs.getD i undef)) : VR w X σ (.fn f caps) (.func (.func f) #[] vs)
  | map {r g : Nat} {es : List (T × V)} (h : σ[r]? = some (.map g es)) : VR w X σ (.map r) (.map (some g))
  | errN : VR w X σ (.err false) .nilIface
  | errS (t : TypeId) (v : Value) : VR w X σ (.err true) (.iface t v)
  | agg {cs : List V} {vs : Array Value} (hl : vs.size = cs.length) (hr : ∀ (i : Nat) (c : V), cs[i]? = some c → VR w X σ c (vs.getD i undef)) : VR w X σ (.agg cs) (.agg vs)
  | tup {cs : List V} {vs : Array Value} (hl : vs.size = cs.length) (hr : ∀ (i : Nat) (c : V), cs[i]? = some c → VR w X σ c (vs.getD i undef)) : VR w X σ (.tup cs) (.tuple vs)
  | undef (v : Value) : VR w X σ .undef v
  | skip : VR w X σ .skip undef

theorem VR.mono {w w' : World} {X X' : Nat → Prop} {σ σ' : List Ob} {v : V} {x : Value} (ρ : Nat → Option Nat) (h : VR w X σ v x) (hs : w.heap.size ≤ w'.heap.size)
    (hσ : ∀ (r : Nat) (o : Ob), σ[r]? = some o → ∀ r', ρ r = some r' → ∃ o' : Ob, σ'[r']? = some o' ∧ o.le o')
    (hw : ∀ b, ¬ AV X σ b → b < w.heap.size → w'.heap[b]? = w.heap[b]?) (ha : ∀ b, ¬ AV X σ b → b < w.heap.size → ¬ AV X' σ' b) : VR w' X' σ' (v.ren ρ) x := by
  induction h with
  | t h => exact .t (h.mono hs hw ha)
  | nil0 a => exact .nil0 a
  | @own r ver off len g ver' sz n es v h hv h1c hp =>
    simp only [V.ren]
    cases hr : ρ r with
    | none => exact .undef _
    | some r' =>
      obtain ⟨o', ho', hle⟩ := hσ r _ h r' hr
      cases o' with
      | map g es => exact hle.elim
      | row g2 v2 s2 n2 es2 =>
        refine .own ho' (Nat.le_trans hv hle.1) h1c (fun e => ?_)
        obtain ⟨rfl, rfl, rfl, e4⟩ := hle.2 (by have := hle.1; omega)
        obtain ⟨c, h1, h2, h3, h4⟩ := hp (by have := hle.1; omega)
        exact ⟨c, h1, h2, h3, by omega⟩
  | @ptr r ver i j g ver' sz n es v h hv h1c hp =>
    simp only [V.ren]
    cases hr : ρ r with
    | none => exact .undef _
    | some r' =>
      obtain ⟨o', ho', hle⟩ := hσ r _ h r' hr
      cases o' with
      | map g es => exact hle.elim
      | row g2 v2 s2 n2 es2 =>
        refine .ptr ho' (Nat.le_trans hv hle.1) h1c (fun e => ?_)
        obtain ⟨rfl, rfl, rfl, e4⟩ := hle.2 (by have := hle.1; omega)
        exact hp (by have := hle.1; omega)
  | @fz e j b off cell hb hav hc hr =>
    exact .fz (Nat.lt_of_lt_of_le hb hs) (ha b hav hb) (fun k t ht => by rw [cell?_congr (hw b hav hb)]; exact hc k t ht) (fun k t ht => (hr k t ht).mono hs hw ha)
  | @fn f caps vs hl hr ih =>
    rw [V.ren, V.renL_eq]
    refine .fn (by simpa using hl) (fun i c hc => ?_)
    rw [List.getElem?_map] at hc
    obtain ⟨c0, h0, rfl⟩ := Option.map_eq_some_iff.1 hc
    exact ih i c0 h0
  | @map r g es h =>
    simp only [V.ren]
    cases hr : ρ r with
    | none => exact .undef _
    | some r' =>
      obtain ⟨o', ho', hle⟩ := hσ r _ h r' hr
      cases o' with
      | row g2 v2 s2 n2 es2 => exact hle.elim
      | map g2 es2 =>
        have : g2 = g := hle
        subst this
        exact .map ho'
  | errN => exact .errN
  | errS t v => exact .errS t v
  | @agg cs vs hl hr ih =>
    rw [V.ren, V.renL_eq]
    refine .agg (by simpa using hl) (fun i c hc => ?_)
    rw [List.getElem?_map] at hc
    obtain ⟨c0, h0, rfl⟩ := Option.map_eq_some_iff.1 hc
    exact ih i c0 h0
  | @tup cs vs hl hr ih =>
    rw [V.ren, V.renL_eq]
    refine .tup (by simpa using hl) (fun i c hc => ?_)
    rw [List.getElem?_map] at hc
    obtain ⟨c0, h0, rfl⟩ := Option.map_eq_some_iff.1 hc
    exact ih i c0 h0
  | undef v => exact .undef v
  | skip => exact .skip

/-- One's own object as the world holds it. -/
def OR (w : World) (X : Nat → Prop) (σ : List Ob) : Ob → Prop
  | .row g _ sz n es => ∃ cs et, w.heap[g]? = some (.cells cs et (0, 0)) ∧ cs.size = n ∧ es.length * sz ≤ n ∧
      ∀ (i : Nat) (e : List V), es[i]? = some e → e.length = sz ∧ ∀ (j : Nat) (c : V), e[j]? = some c → VR w X σ c (cs.getD (i * sz + j) undef)
  | .map g es => ∃ ents clock, w.heap[g]? = some (.map ents clock) ∧ ents.size = es.length ∧
      ∀ (i : Nat) (k : T) (x : V), es[i]? = some (k, x) → ∃ e : MapEntry, ents[i]? = some e ∧ k.plain = some e.key ∧ VR w X σ x e.val

def Ob.ren (ρ : Nat → Option Nat) : Ob → Ob
  | .row g ver sz n es => .row g ver sz n (es.map (·.map (V.ren ρ)))
  | .map g es => .map g (es.map fun p => (p.1, p.2.ren ρ))
theorem Ob.ren_g (ρ : Nat → Option Nat) (o : Ob) : (o.ren ρ).g = o.g := by cases o <;> rfl
theorem Ob.ren_id (o : Ob) : o.ren some = o := by
  have h : V.ren some = id := funext V.ren_id
  cases o <;> simp [Ob.ren, h]

theorem OR.mono {w w' : World} {X X' : Nat → Prop} {σ σ' : List Ob} {o : Ob} (ρ : Nat → Option Nat) (h : OR w X σ o) (hs : w.heap.size ≤ w'.heap.size)
    (hb : w'.heap[o.g]? = w.heap[o.g]?)
    (hσ : ∀ (r : Nat) (o : Ob), σ[r]? = some o → ∀ r', ρ r = some r' → ∃ o' : Ob, σ'[r']? = some o' ∧ o.le o')
    (hw : ∀ b, ¬ AV X σ b → b < w.heap.size → w'.heap[b]? = w.heap[b]?) (ha : ∀ b, ¬ AV X σ b → b < w.heap.size → ¬ AV X' σ' b) : OR w' X' σ' (o.ren ρ) := by
  cases o with
  | row g ver sz n es =>
    obtain ⟨cs, et, h1, h2, h3, h4⟩ := h
    refine ⟨cs, et, by rw [← h1]; exact hb, h2, by simpa using h3, fun i e he => ?_⟩
    rw [List.getElem?_map] at he
    obtain ⟨e0, he0, rfl⟩ := Option.map_eq_some_iff.1 he
    obtain ⟨h5, h6⟩ := h4 i e0 he0
    refine ⟨by simpa using h5, fun j c hc => ?_⟩
    rw [List.getElem?_map] at hc
    obtain ⟨c0, hc0, rfl⟩ := Option.map_eq_some_iff.1 hc
    exact (h6 j c0 hc0).mono ρ hs hσ hw ha
  | map g es =>
    obtain ⟨ents, clock, h1, h2, h3⟩ := h
    refine ⟨ents, clock, by rw [← h1]; exact hb, by simpa using h2, fun i k x hx => ?_⟩
    rw [List.getElem?_map] at hx
    obtain ⟨⟨k0, x0⟩, hx0, he⟩ := Option.map_eq_some_iff.1 hx
    obtain ⟨rfl, rfl⟩ := Prod.mk.inj he
    obtain ⟨e, h4, h5, h6⟩ := h3 i k0 x0 hx0
    exact ⟨e, h4, h5, h6.mono ρ hs hσ hw ha⟩

/-- A state: slots, one's own objects, a number below which all blocks met so far lie. -/
structure St where
  env : Nat → V
  σ : List Ob
  h : Nat

def upd (e : Nat → V) (d : Nat) (v : V) : Nat → V := fun t => if t = d then v else e t
def St.put (s : St) (d : Option Tmp) (v : V) : St := match d with | some d => { s with env := upd s.env d v } | none => s

/-- All that holds of one's own objects together. -/
structure Heap (w : World) (X : Nat → Prop) (σ : List Ob) : Prop where
  obj : ∀ (r : Nat) (o : Ob), σ[r]? = some o → OR w X σ o
  nd : ∀ (r r' : Nat) (o o' : Ob), σ[r]? = some o → σ[r']? = some o' → o.g = o'.g → r = r'
  nx : ∀ (r : Nat) (o : Ob), σ[r]? = some o → ¬ X o.g

/-- What a stretch of a run leaves alone: everything old that is not in 'av'. -/
structure Fr (w0 : World) (av : Nat → Prop) (w : World) : Prop where
  os : w.os = w0.os
  tape : w.tape = w0.tape
  output : w.output = w0.output
  size : w0.heap.size ≤ w.heap.size
  block : ∀ b, b < w0.heap.size → ¬ av b → w.heap[b]? = w0.heap[b]?
theorem Fr.refl (w : World) (av : Nat → Prop) : Fr w av w := ⟨rfl, rfl, rfl, Nat.le_refl _, fun _ _ _ => rfl⟩

/-- A state that stands for a frame and a world, in a call that began in w0 with the objects' blocks av0. -/
structure Inv (w0 : World) (av0 X : Nat → Prop) (N : Nat) (a : Act) (w : World) (s : St) : Prop where
  hp : Heap w X s.σ
  env : ∀ t, VR w X s.σ (s.env t) (a.tmps.getD t undef)
  h : s.h ≤ w.heap.size
  h0 : w0.heap.size ≤ s.h
  fr : Fr w0 av0 w
  own : ∀ (r : Nat) (o : Ob), s.σ[r]? = some o → av0 o.g ∨ w0.heap.size ≤ o.g
  defers : a.defers = []
  sz : a.tmps.size = N

theorem Heap.lt {w : World} {X : Nat → Prop} {σ : List Ob} (h : Heap w X σ) {r : Nat} {o : Ob} (ho : σ[r]? = some o) : o.g < w.heap.size := by
  have := h.obj r o ho
  cases o with
  | row g ver sz n es =>
    obtain ⟨cs, et, h1, _⟩ := this
    exact (Array.getElem?_eq_some_iff.1 h1).1
  | map g es =>
    obtain ⟨cs, et, h1, _⟩ := this
    exact (Array.getElem?_eq_some_iff.1 h1).1
end Go.VL
