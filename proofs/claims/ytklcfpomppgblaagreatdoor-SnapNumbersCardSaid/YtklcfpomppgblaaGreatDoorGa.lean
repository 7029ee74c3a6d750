/- A verified generator of conditions over the code of the model. Part 1. -/
import Derived.Calls
import Derived.Orders
import Derived.Laws.Cells
import Derived.Laws.World
import GoSem.ClaimData
import GoSem.Claims
import Derived.Deep.Quiet
import Derived.IntWalk
import Derived.Laws.Strings
import Derived.Laws.StructEq
import Derived.ChangeKeysEq
set_option linter.all false

/- The base of the verified generator: data types, data, what it means that cells in memory hold a datum, abstract values, abstract own objects, and that all of it stays true when memory grows. -/
namespace Go.Gv
open Go
inductive Ty where
 | int (k : IntKind)
 | bool
 | str
 | sl (t : Ty)
 | nl
 | cs (t r : Ty)
 | st (fs : Ty)
 | arr (n : Nat) (t : Ty)
 | mp (k v : Ty)
 | pt (t : Ty)
 | ot (k : Nat)
 | fn
 | ni
 | ifc (u : Nat) (t r : Ty)
 deriving DecidableEq
@[reducible] def Dat : Ty → Type
 | .int _ => Int
 | .bool => Bool
 | .str => List UInt8
 | .sl t => List (Dat t)
 | .nl => Unit
 | .cs t r => Dat t × Dat r
 | .st fs => Dat fs
 | .arr _ t => List (Dat t)
 | .mp k v => List (Dat k × Dat v)
 | .pt t => Option (Dat t)
 | .ot _ => Unit
 | .fn => Option Nat
 | .ni => Unit
 | .ifc _ t r => Dat t ⊕ Dat r
def Ty.size : Ty → Nat
 | .nl => 0
 | .cs t r => t.size + r.size
 | .st fs => fs.size
 | .arr n t => n * t.size
 | _ => 1
def Ty.agg : Ty → Bool
 | .st _ => true
 | .arr _ _ => true
 | _ => false
def dflt : (t : Ty) → Dat t
 | .int _ => (0 : Int)
 | .bool => false
 | .str => ([] : List UInt8)
 | .sl t => ([] : List (Dat t))
 | .nl => ()
 | .cs t r => (dflt t, dflt r)
 | .st fs => dflt fs
 | .arr n t => List.replicate n (dflt t)
 | .mp k v => ([] : List (Dat k × Dat v))
 | .pt t => (none : Option (Dat t))
 | .ot _ => ()
 | .fn => (none : Option Nat)
 | .ni => ()
 | .ifc _ t r => .inr (dflt r)
def strV (l : List UInt8) : Value := .string ⟨⟨l⟩⟩
structure GW where
 w : World
 im : Nat → Nat → Prop
 imo : Nat → Prop
 nz : Prop
def GW.le (G G' : GW) : Prop :=
 (∀ b o, G.im b o → G'.im b o ∧ G'.w.cell? ⟨b, o, none⟩ = G.w.cell? ⟨b, o, none⟩) ∧
 (∀ b, G.imo b → G'.imo b ∧ G'.w.heap[b]? = G.w.heap[b]?)
theorem GW.le_refl (G : GW) : G.le G := ⟨fun _ _ h => ⟨h, rfl⟩, fun _ h => ⟨h, rfl⟩⟩
theorem GW.le_trans {A B C : GW} (h : A.le B) (k : B.le C) : A.le C :=
 ⟨fun b o hi => ⟨(k.1 b o (h.1 b o hi).1).1, ((k.1 b o (h.1 b o hi).1).2).trans (h.1 b o hi).2⟩,
  fun b hi => ⟨(k.2 b (h.2 b hi).1).1, ((k.2 b (h.2 b hi).1).2).trans (h.2 b hi).2⟩⟩
def GW.leW (G G' : GW) : Prop :=
 (∀ b o, G.im b o → G'.im b o ∧ G'.w.cell? ⟨b, o, none⟩ = G.w.cell? ⟨b, o, none⟩) ∧
 (∀ b es c, G.imo b → G.w.heap[b]? = some (.map es c) → G'.imo b ∧ G'.w.heap[b]? = some (.map es c))
theorem GW.le.w {G G' : GW} (h : G.le G') : G.leW G' := ⟨h.1, fun b _ _ hi he => ⟨(h.2 b hi).1, (h.2 b hi).2.trans he⟩⟩
theorem GW.leW_trans {A B C : GW} (h : A.leW B) (k : B.leW C) : A.leW C :=
 ⟨fun b o hi => ⟨(k.1 b o (h.1 b o hi).1).1, ((k.1 b o (h.1 b o hi).1).2).trans (h.1 b o hi).2⟩,
  fun b es c hi he => k.2 b es c (h.2 b es c hi he).1 (h.2 b es c hi he).2⟩
def CellsIm (G : GW) (b o : Nat) (vs : List Value) : Prop :=
 ∀ j v, vs[j]? = some v → G.im b (o + j) ∧ G.w.cell? ⟨b, o + j, none⟩ = some v
theorem CellsIm.monoW {G G' : GW} {b o : Nat} {vs : List Value} (h : CellsIm G b o vs) (hg : G.leW G') : CellsIm G' b o vs :=
 fun j v hv => ⟨(hg.1 _ _ (h j v hv).1).1, (hg.1 _ _ (h j v hv).1).2.trans (h j v hv).2⟩
theorem CellsIm.mono {G G' : GW} {b o : Nat} {vs : List Value} (h : CellsIm G b o vs) (hg : G.le G') : CellsIm G' b o vs := h.monoW hg.w
def isI : Ty → Bool
 | .ni => true
 | .ifc _ _ _ => true
 | _ => false
def Rep : (t : Ty) → Dat t → GW → List Value → Prop
 | .int k, n, _, vs => vs = [.int k n] ∧ k.has n
 | .bool, b, _, vs => vs = [.bool b]
 | .str, s, _, vs => vs = [strV s] ∧ s.length ≤ maxLen
 | .sl t, xs, G, vs => ∃ (base : Option Addr) (cap : Nat), vs = [.slice base (List.length xs) cap] ∧ List.length xs ≤ cap ∧ cap ≤ maxLen ∧ (base = none → cap = 0) ∧
     ∀ a, base = some a → (0 < cap → a.spot = none) ∧ ∀ (i : Nat) (x : Dat t), xs[i]? = some x → ∃ cells : List Value, CellsIm G a.block (a.off + i * t.size) cells ∧ Rep t x G cells
 | .nl, _, _, vs => vs = []
 | .cs t r, x, G, vs => ∃ v1 v2, vs = v1 ++ v2 ∧ Rep t x.1 G v1 ∧ Rep r x.2 G v2
 | .st fs, x, G, vs => Rep fs x G vs
 | .arr n t, xs, G, vs => List.length xs = n ∧ vs.length = n * t.size ∧ ∀ (i : Nat) (x : Dat t), xs[i]? = some x → Rep t x G ((vs.drop (i * t.size)).take t.size)
 | .mp k v, m, G, vs => ∃ r : Option Nat, vs = [.map r] ∧ (r = none → m = []) ∧ ∀ b, r = some b → ∃ es c, G.imo b ∧ G.w.heap[b]? = some (.map es c) ∧ es.size = List.length m ∧
     ∀ (i : Nat) (e : MapEntry), es[i]? = some e → ∃ x : Dat k × Dat v, m[i]? = some x ∧ Rep k x.1 G e.key.cells.toList ∧ (k.agg = true ↔ ∃ c, e.key = .agg c) ∧ Rep v x.2 G e.val.cells.toList ∧ (v.agg = true ↔ ∃ c, e.val = .agg c)
 | .pt _, none, _, vs => vs = [.pointer none]
 | .pt t, some x, G, vs => ∃ b o cells, vs = [.pointer (some ⟨b, o, none⟩)] ∧ CellsIm G b o cells ∧ Rep t x G cells
 | .ot _, _, _, vs => ∃ v : Value, vs = [v] ∧ v.oneCell' = true
 | .fn, none, _, vs => vs = [.nilFunc]
 | .fn, some g, _, vs => vs = [.func (.func g) #[] #[]]
 | .ni, _, _, vs => vs = [.nilIface]
 | .ifc u t _, .inl x, G, vs => ∃ v : Value, vs = [.iface u v] ∧ (t.agg = true ↔ ∃ c, v = .agg c) ∧ Rep t x G v.cells.toList
 | .ifc _ _ r, .inr y, G, vs => (∃ v : Value, vs = [v] ∧ v.oneCell' = true) ∧ (isI r = true → Rep r y G vs) ∧ (isI r = false → vs = [.nilIface])
theorem Rep.monoW : ∀ (t : Ty) {x : Dat t} {G G' : GW} {vs : List Value}, Rep t x G vs → G.leW G' → Rep t x G' vs
 | .int _, _, _, _, _, h, _ => h
 | .bool, _, _, _, _, h, _ => h
 | .str, _, _, _, _, h, _ => h
 | .nl, _, _, _, _, h, _ => h
 | .sl t, _, _, _, _, ⟨base, cap, e, h1, h2, h3, h4⟩, hg =>
  ⟨base, cap, e, h1, h2, h3, fun a ha => ⟨(h4 a ha).1, fun i x hx => let ⟨cells, hc, hr⟩ := (h4 a ha).2 i x hx; ⟨cells, hc.monoW hg, Rep.monoW t hr hg⟩⟩⟩
 | .cs t r, _, _, _, _, ⟨v1, v2, e, h1, h2⟩, hg => ⟨v1, v2, e, Rep.monoW t h1 hg, Rep.monoW r h2 hg⟩
 | .st fs, _, _, _, _, h, hg => by unfold Rep at h ⊢; exact Rep.monoW fs h hg
 | .arr n t, _, _, _, _, ⟨e, h1, h2⟩, hg => ⟨e, h1, fun i x hx => Rep.monoW t (h2 i x hx) hg⟩
 | .mp k v, _, _, _, _, ⟨r, e, h1, h2⟩, hg => ⟨r, e, h1, fun b hb => let ⟨es, c, hi, hh, hs, he⟩ := h2 b hb
     ⟨es, c, (hg.2 b es c hi hh).1, (hg.2 b es c hi hh).2, hs, fun i e hie => let ⟨x, hx, r1, a1, r2, a2⟩ := he i e hie; ⟨x, hx, Rep.monoW k r1 hg, a1, Rep.monoW v r2 hg, a2⟩⟩⟩
 | .pt t, none, _, _, _, h, _ => h
 | .pt t, some x, _, _, _, ⟨b, o, cells, e, hc, hr⟩, hg => ⟨b, o, cells, e, hc.monoW hg, Rep.monoW t hr hg⟩
 | .ot _, _, _, _, _, h, _ => h
 | .fn, none, _, _, _, h, _ => h
 | .fn, some _, _, _, _, h, _ => h
 | .ni, _, _, _, _, h, _ => h
 | .ifc _ t _, .inl _, _, _, _, ⟨v, e, ha, h⟩, hg => ⟨v, e, ha, Rep.monoW t h hg⟩
 | .ifc _ _ r, .inr _, _, _, _, ⟨e, h, h0⟩, hg => ⟨e, fun q => Rep.monoW r (h q) hg, h0⟩
theorem Rep.mono (t : Ty) {x : Dat t} {G G' : GW} {vs : List Value} (h : Rep t x G vs) (hg : G.le G') : Rep t x G' vs := Rep.monoW t h hg.w
theorem Rep.length : ∀ (t : Ty) {x : Dat t} {G : GW} {vs : List Value}, Rep t x G vs → vs.length = t.size
 | .int _, _, _, _, h => by rw [h.1]; rfl
 | .bool, _, _, _, h => by unfold Rep at h; rw [h]; rfl
 | .str, _, _, _, h => by rw [h.1]; rfl
 | .nl, _, _, _, h => by unfold Rep at h; rw [h]; rfl
 | .sl _, _, _, _, ⟨_, _, e, _⟩ => by rw [e]; rfl
 | .cs t r, _, _, _, ⟨v1, v2, e, h1, h2⟩ => by rw [e, List.length_append, Rep.length t h1, Rep.length r h2]; rfl
 | .st fs, _, _, _, h => by unfold Rep at h; exact Rep.length fs h
 | .arr _ _, _, _, _, ⟨_, h1, _⟩ => h1
 | .mp _ _, _, _, _, ⟨_, e, _⟩ => by rw [e]; rfl
 | .pt _, none, _, _, h => by unfold Rep at h; rw [h]; rfl
 | .pt _, some _, _, _, ⟨_, _, _, e, _⟩ => by rw [e]; rfl
 | .ot _, _, _, _, ⟨_, e, _⟩ => by rw [e]; rfl
 | .fn, none, _, _, h => by unfold Rep at h; rw [h]; rfl
 | .fn, some _, _, _, h => by unfold Rep at h; rw [h]; rfl
 | .ni, _, _, _, h => by unfold Rep at h; rw [h]; rfl
 | .ifc _ _ _, .inl _, _, _, ⟨_, e, _⟩ => by rw [e]; rfl
 | .ifc _ _ _, .inr _, _, _, ⟨⟨_, e, _⟩, _⟩ => by rw [e]; rfl
theorem Rep.one : ∀ (t : Ty) {x : Dat t} {G : GW} {vs : List Value}, Rep t x G vs → ∀ v ∈ vs, v.oneCell' = true
 | .int _, _, _, _, h => by rw [h.1]; simp [Value.oneCell']
 | .bool, _, _, _, h => by unfold Rep at h; rw [h]; simp [Value.oneCell']
 | .str, _, _, _, h => by rw [h.1]; simp [Value.oneCell', strV]
 | .nl, _, _, _, h => by unfold Rep at h; rw [h]; simp
 | .sl _, _, _, _, ⟨_, _, e, _⟩ => by rw [e]; simp [Value.oneCell']
 | .cs t r, _, _, _, ⟨v1, v2, e, h1, h2⟩ => by
  intro v hv
  rw [e, List.mem_append] at hv
  rcases hv with hv | hv
  · exact Rep.one t h1 v hv
  · exact Rep.one r h2 v hv
 | .st fs, _, _, _, h => by unfold Rep at h; exact Rep.one fs h
 | .arr n t, xs, G, vs, ⟨e, h1, h2⟩ => by
  intro v hv
  obtain ⟨j, hj, rfl⟩ := List.getElem_of_mem hv
  have hs : 0 < t.size := by
   rcases Nat.eq_zero_or_pos t.size with h0 | h0
   · rw [h0, Nat.mul_zero] at h1; omega
   · exact h0
  have hq : j / t.size < xs.length := by rw [e]; exact Nat.div_lt_of_lt_mul (by rw [Nat.mul_comm, ← h1]; exact hj)
  have hr := Rep.one t (h2 (j / t.size) _ (List.getElem?_eq_getElem hq)) vs[j]
  refine hr ?_
  have hm : j = j / t.size * t.size + j % t.size := by rw [Nat.mul_comm]; exact (Nat.div_add_mod j t.size).symm
  have hlt : j % t.size < t.size := Nat.mod_lt _ hs
  have hb : j / t.size * t.size + t.size ≤ n * t.size := by rw [← Nat.succ_mul]; exact Nat.mul_le_mul_right _ (by omega)
  rw [List.mem_iff_getElem]
  refine ⟨j % t.size, ?_, ?_⟩
  · simp; omega
  · simp only [List.getElem_take, List.getElem_drop]
    congr 1
    omega
 | .mp _ _, _, _, _, ⟨_, e, _⟩ => by rw [e]; simp [Value.oneCell']
 | .pt _, none, _, _, h => by unfold Rep at h; rw [h]; simp [Value.oneCell']
 | .pt _, some _, _, _, ⟨_, _, _, e, _⟩ => by rw [e]; simp [Value.oneCell']
 | .ot _, _, _, _, ⟨_, e, h⟩ => by rw [e]; simp [h]
 | .fn, none, _, _, h => by unfold Rep at h; rw [h]; simp [Value.oneCell']
 | .fn, some _, _, _, h => by unfold Rep at h; rw [h]; simp [Value.oneCell']
 | .ni, _, _, _, h => by unfold Rep at h; rw [h]; simp [Value.oneCell']
 | .ifc _ _ _, .inl _, _, _, ⟨_, e, _⟩ => by rw [e]; simp [Value.oneCell']
 | .ifc _ _ _, .inr _, _, _, ⟨⟨_, e, h⟩, _⟩ => by rw [e]; simp [h]
def RepV (t : Ty) (x : Dat t) (G : GW) (v : Value) : Prop := (t.agg = true ↔ ∃ c, v = .agg c) ∧ Rep t x G v.cells.toList
theorem RepV.monoW {t : Ty} {x : Dat t} {G G' : GW} {v : Value} (h : RepV t x G v) (hg : G.leW G') : RepV t x G' v := ⟨h.1, Rep.monoW t h.2 hg⟩
theorem RepV.mono {t : Ty} {x : Dat t} {G G' : GW} {v : Value} (h : RepV t x G v) (hg : G.le G') : RepV t x G' v := h.monoW hg.w
theorem RepV.of_agg {t : Ty} {x : Dat t} {G : GW} {cs : List Value} (ha : t.agg = true) (h : Rep t x G cs) : RepV t x G (.agg cs.toArray) :=
 ⟨⟨fun _ => ⟨_, rfl⟩, fun _ => ha⟩, by simpa [Value.cells] using h⟩
theorem RepV.of_one {t : Ty} {x : Dat t} {G : GW} {v : Value} (ha : t.agg = false) (h : Rep t x G [v]) : RepV t x G v := by
 have h1 := Rep.one t h v (by simp)
 have hc : ∀ c, v ≠ .agg c := fun c e => by rw [e] at h1; simp [Value.oneCell'] at h1
 refine ⟨⟨fun h => (by rw [ha] at h; cases h), fun ⟨c, e⟩ => (hc c e).elim⟩, ?_⟩
 have : v.cells = #[v] := by cases v <;> first | rfl | exact ((hc _ rfl).elim)
 rw [this]; exact h
theorem RepV.to_one {t : Ty} {x : Dat t} {G : GW} {v : Value} (h : RepV t x G v) (ha : t.agg = false) : Rep t x G [v] := by
 have hc : ∀ c, v ≠ .agg c := fun c e => by have := h.1.2 ⟨c, e⟩; rw [ha] at this; cases this
 have : v.cells = #[v] := by cases v <;> first | rfl | exact ((hc _ rfl).elim)
 have h2 := h.2; rw [this] at h2; exact h2
theorem RepV.to_agg {t : Ty} {x : Dat t} {G : GW} {v : Value} (h : RepV t x G v) (ha : t.agg = true) : ∃ cs : List Value, v = .agg cs.toArray ∧ Rep t x G cs := by
 obtain ⟨c, e⟩ := h.1.1 ha
 subst e
 exact ⟨c.toList, by simp, h.2⟩
inductive AP where
 | any
 | dat (t : Ty) (x : Dat t)
 | blit (b : Bool)
 | val (v : Value)
 | agg (cs : AP)
 | nil
 | cons (h t : AP)
 | tup (vs : AP)
 | ptr (t : Ty) (x : Dat t)
 | ref (h : Nat)
 | loc (h off : Nat)
 | rloc (h i sz off : Nat)
 | dec (p : Prop)
 | nxt (p : Prop)
 | sl (h : Nat) (t : Ty) (xs : List (Dat t))
 | clos (f : FuncId) (caps : AP)
 | vw (h k sz : Nat)
abbrev Asg := Nat → Option Value
def Asg.le (β β' : Asg) : Prop := ∀ h v, β h = some v → β' h = some v
theorem Asg.le_refl (β : Asg) : β.le β := fun _ _ h => h
theorem Asg.le_trans {a b c : Asg} (h : a.le b) (k : b.le c) : a.le c := fun n v e => k n v (h n v e)
mutual
def sat : AP → Asg → GW → Value → Prop
 | .any, _, _, _ => True
 | .dat t x, _, G, v => RepV t x G v
 | .blit b, _, _, v => v = .bool b
 | .val u, _, _, v => v = u
 | .agg cs, β, G, v => ∃ l : List Value, v = .agg l.toArray ∧ satL cs β G l
 | .nil, _, _, _ => False
 | .cons _ _, _, _, _ => False
 | .tup vs, β, G, v => ∃ l : List Value, v = .tuple l.toArray ∧ satT vs β G l
 | .ptr t x, _, G, v => ∃ b o cells, v = .pointer (some ⟨b, o, none⟩) ∧ CellsIm G b o cells ∧ Rep t x G cells
 | .ref h, β, _, v => β h = some v ∧ v.oneCell' = true
 | .loc h off, β, _, v => ∃ b, β h = some (.pointer (some ⟨b, 0, none⟩)) ∧ v = .pointer (some ⟨b, off, none⟩)
 | .rloc h i sz off, β, _, v => ∃ a len cap, β h = some (.slice (some a) len cap) ∧ a.spot = none ∧ v = .pointer (some ⟨a.block, a.off + i * sz + off, none⟩)
 | .dec p, _, _, v => (p → v = .bool true) ∧ (¬ p → v = .bool false)
 | .nxt p, _, _, v => (p → ∃ a b, v = .tuple #[.bool true, a, b]) ∧ (¬ p → v = .tuple #[.bool false])
 | .sl h t xs, β, G, v => β h = some v ∧ RepV (.sl t) xs G v
 | .vw h k sz, β, _, v => ∃ a len cap, β h = some (.slice (some a) len cap) ∧ a.spot = none ∧ k < len ∧ v = .slice (some ⟨a.block, a.off + k * sz, none⟩) (len - k) (cap - k)
 | .clos f caps, β, G, v => ∃ l : List Value, v = .func (.func f) #[] l.toArray ∧ satT caps β G l
def satL : AP → Asg → GW → List Value → Prop
 | .nil, _, _, l => l = []
 | .cons h t, β, G, l => ∃ v l', l = v :: l' ∧ v.oneCell' = true ∧ sat h β G v ∧ satL t β G l'
 | _, _, _, _ => False
def satT : AP → Asg → GW → List Value → Prop
 | .nil, _, _, l => l = []
 | .cons h t, β, G, l => ∃ v l', l = v :: l' ∧ sat h β G v ∧ satT t β G l'
 | _, _, _, _ => False
end
mutual
theorem sat.monoW : ∀ (X : AP) {β β' : Asg} {G G' : GW} {v : Value}, sat X β G v → β.le β' → G.leW G' → sat X β' G' v
 | .any, _, _, _, _, _, _, _, _ => trivial
 | .dat t x, _, _, _, _, _, h, _, hg => by unfold sat at h ⊢; exact RepV.monoW h hg
 | .blit b, _, _, _, _, _, h, _, _ => by unfold sat at h ⊢; exact h
 | .val u, _, _, _, _, _, h, _, _ => by unfold sat at h ⊢; exact h
 | .agg cs, _, _, _, _, _, h, hb, hg => by unfold sat at h ⊢; obtain ⟨l, e, h⟩ := h; exact ⟨l, e, satL.monoW cs h hb hg⟩
 | .nil, _, _, _, _, _, h, _, _ => by unfold sat at h; exact h.elim
 | .cons _ _, _, _, _, _, _, h, _, _ => by unfold sat at h; exact h.elim
 | .tup vs, _, _, _, _, _, h, hb, hg => by unfold sat at h ⊢; obtain ⟨l, e, h⟩ := h; exact ⟨l, e, satT.monoW vs h hb hg⟩
 | .ptr t x, _, _, _, _, _, h, _, hg => by unfold sat at h ⊢; obtain ⟨b, o, cells, e, hc, hr⟩ := h; exact ⟨b, o, cells, e, hc.monoW hg, Rep.monoW t hr hg⟩
 | .ref h, _, _, _, _, _, hs, hb, _ => by unfold sat at hs ⊢; exact ⟨hb _ _ hs.1, hs.2⟩
 | .loc h off, _, _, _, _, _, hs, hb, _ => by unfold sat at hs ⊢; obtain ⟨b, e, hv⟩ := hs; exact ⟨b, hb _ _ e, hv⟩
 | .rloc h i sz off, _, _, _, _, _, hs, hb, _ => by unfold sat at hs ⊢; obtain ⟨a, len, cap, e, hv⟩ := hs; exact ⟨a, len, cap, hb _ _ e, hv⟩
 | .vw h k sz, _, _, _, _, _, hs, hb, _ => by unfold sat at hs ⊢; obtain ⟨a, len, cap, e, hv⟩ := hs; exact ⟨a, len, cap, hb _ _ e, hv⟩
 | .dec p, _, _, _, _, _, h, _, _ => by unfold sat at h ⊢; exact h
 | .nxt p, _, _, _, _, _, h, _, _ => by unfold sat at h ⊢; exact h
 | .sl h t xs, _, _, _, _, _, hs, hb, hg => by unfold sat at hs ⊢; exact ⟨hb _ _ hs.1, RepV.monoW hs.2 hg⟩
 | .clos f caps, _, _, _, _, _, h, hb, hg => by unfold sat at h ⊢; obtain ⟨l, e, h⟩ := h; exact ⟨l, e, satT.monoW caps h hb hg⟩
theorem satL.monoW : ∀ (X : AP) {β β' : Asg} {G G' : GW} {l : List Value}, satL X β G l → β.le β' → G.leW G' → satL X β' G' l
 | .nil, _, _, _, _, _, h, _, _ => by unfold satL at h ⊢; exact h
 | .cons h t, _, _, _, _, _, hs, hb, hg => by unfold satL at hs ⊢; obtain ⟨v, l', e, o, h1, h2⟩ := hs; exact ⟨v, l', e, o, sat.monoW h h1 hb hg, satL.monoW t h2 hb hg⟩
 | .any, _, _, _, _, _, h, _, _ => by unfold satL at h; exact h.elim
 | .dat _ _, _, _, _, _, _, h, _, _ => by unfold satL at h; exact h.elim
 | .blit _, _, _, _, _, _, h, _, _ => by unfold satL at h; exact h.elim
 | .val _, _, _, _, _, _, h, _, _ => by unfold satL at h; exact h.elim
 | .agg _, _, _, _, _, _, h, _, _ => by unfold satL at h; exact h.elim
 | .tup _, _, _, _, _, _, h, _, _ => by unfold satL at h; exact h.elim
 | .ptr _ _, _, _, _, _, _, h, _, _ => by unfold satL at h; exact h.elim
 | .ref _, _, _, _, _, _, h, _, _ => by unfold satL at h; exact h.elim
 | .loc _ _, _, _, _, _, _, h, _, _ => by unfold satL at h; exact h.elim
 | .rloc _ _ _ _, _, _, _, _, _, h, _, _ => by unfold satL at h; exact h.elim
 | .vw _ _ _, _, _, _, _, _, h, _, _ => by unfold satL at h; exact h.elim
 | .dec _, _, _, _, _, _, h, _, _ => by unfold satL at h; exact h.elim
 | .nxt _, _, _, _, _, _, h, _, _ => by unfold satL at h; exact h.elim
 | .sl _ _ _, _, _, _, _, _, h, _, _ => by unfold satL at h; exact h.elim
 | .clos _ _, _, _, _, _, _, h, _, _ => by unfold satL at h; exact h.elim
theorem satT.monoW : ∀ (X : AP) {β β' : Asg} {G G' : GW} {l : List Value}, satT X β G l → β.le β' → G.leW G' → satT X β' G' l
 | .nil, _, _, _, _, _, h, _, _ => by unfold satT at h ⊢; exact h
 | .cons h t, _, _, _, _, _, hs, hb, hg => by unfold satT at hs ⊢; obtain ⟨v, l', e, h1, h2⟩ := hs; exact ⟨v, l', e, sat.monoW h h1 hb hg, satT.monoW t h2 hb hg⟩
 | .any, _, _, _, _, _, h, _, _ => by unfold satT at h; exact h.elim
 | .dat _ _, _, _, _, _, _, h, _, _ => by unfold satT at h; exact h.elim
 | .blit _, _, _, _, _, _, h, _, _ => by unfold satT at h; exact h.elim
 | .val _, _, _, _, _, _, h, _, _ => by unfold satT at h; exact h.elim
 | .agg _, _, _, _, _, _, h, _, _ => by unfold satT at h; exact h.elim
 | .tup _, _, _, _, _, _, h, _, _ => by unfold satT at h; exact h.elim
 | .ptr _ _, _, _, _, _, _, h, _, _ => by unfold satT at h; exact h.elim
 | .ref _, _, _, _, _, _, h, _, _ => by unfold satT at h; exact h.elim
 | .loc _ _, _, _, _, _, _, h, _, _ => by unfold satT at h; exact h.elim
 | .rloc _ _ _ _, _, _, _, _, _, h, _, _ => by unfold satT at h; exact h.elim
 | .vw _ _ _, _, _, _, _, _, h, _, _ => by unfold satT at h; exact h.elim
 | .dec _, _, _, _, _, _, h, _, _ => by unfold satT at h; exact h.elim
 | .nxt _, _, _, _, _, _, h, _, _ => by unfold satT at h; exact h.elim
 | .sl _ _ _, _, _, _, _, _, h, _, _ => by unfold satT at h; exact h.elim
 | .clos _ _, _, _, _, _, _, h, _, _ => by unfold satT at h; exact h.elim
end
theorem sat.mono (X : AP) {β β' : Asg} {G G' : GW} {v : Value} (h : sat X β G v) (hb : β.le β') (hg : G.le G') : sat X β' G' v := sat.monoW X h hb hg.w
theorem satL.mono (X : AP) {β β' : Asg} {G G' : GW} {l : List Value} (h : satL X β G l) (hb : β.le β') (hg : G.le G') : satL X β' G' l := satL.monoW X h hb hg.w
theorem satT.mono (X : AP) {β β' : Asg} {G G' : GW} {l : List Value} (h : satT X β G l) (hb : β.le β') (hg : G.le G') : satT X β' G' l := satT.monoW X h hb hg.w
end Go.Gv

/- The abstract heap of own objects, what it means in a world, steps of the world, and the laws by which an operation carries the heap's invariant on. -/
namespace Go.Gv
open Go
structure Step (F : Nat → Nat → Prop) (Fo : Nat → Prop) (G G' : GW) : Prop where
 os : G'.w.os = G.w.os
 tape : G'.w.tape = G.w.tape
 output : G'.w.output = G.w.output
 size : G.w.heap.size ≤ G'.w.heap.size
 cell : ∀ b o, b < G.w.heap.size → ¬ F b o → G'.w.cell? ⟨b, o, none⟩ = G.w.cell? ⟨b, o, none⟩ ∧ G'.w.frozen? ⟨b, o, none⟩ = G.w.frozen? ⟨b, o, none⟩
 blk : ∀ b, b < G.w.heap.size → (∀ o, ¬ F b o) → ¬ Fo b → G'.w.heap[b]? = G.w.heap[b]?
 obj : ∀ b es c, ¬ Fo b → G.w.heap[b]? = some (.map es c) → G'.w.heap[b]? = some (.map es c)
 le : G.le G'
 new : ∀ b o, G'.im b o → G.im b o ∨ F b o ∨ G.w.heap.size ≤ b
 newo : ∀ b, G'.imo b → G.imo b ∨ Fo b ∨ G.w.heap.size ≤ b
 drawn : G.w.drawn ≤ G'.w.drawn ∨ G.nz
 nz : G'.nz = G.nz
theorem Step.refl (F : Nat → Nat → Prop) (Fo : Nat → Prop) (G : GW) : Step F Fo G G :=
 ⟨rfl, rfl, rfl, Nat.le_refl _, fun _ _ _ _ => ⟨rfl, rfl⟩, fun _ _ _ _ => rfl, fun _ _ _ _ h => h, G.le_refl, fun _ _ h => .inl h, fun _ h => .inl h, .inl (Nat.le_refl _), rfl⟩
theorem Step.trans {F F1 : Nat → Nat → Prop} {Fo Fo1 : Nat → Prop} {A B C : GW} (h : Step F Fo A B) (k : Step F1 Fo1 B C)
    (hF : ∀ b o, F1 b o → F b o ∨ A.w.heap.size ≤ b) (hFo : ∀ b, Fo1 b → Fo b ∨ A.w.heap.size ≤ b) : Step F Fo A C := {
 os := k.os.trans h.os
 tape := k.tape.trans h.tape
 output := k.output.trans h.output
 size := Nat.le_trans h.size k.size
 cell := fun b o hb hn => by
  have h1 := h.cell b o hb hn
  have h2 := k.cell b o (Nat.lt_of_lt_of_le hb h.size) (fun hf => (hF b o hf).elim hn (fun h => by omega))
  exact ⟨h2.1.trans h1.1, h2.2.trans h1.2⟩
 blk := fun b hb hn ho => by
  rw [k.blk b (Nat.lt_of_lt_of_le hb h.size) (fun o hf => (hF b o hf).elim (hn o) (fun h => by omega)) (fun hf => (hFo b hf).elim ho (fun h => by omega)), h.blk b hb hn ho]
 obj := fun b es c ho he => by
  have h1 := h.obj b es c ho he
  refine k.obj b es c (fun hf => (hFo b hf).elim ho (fun hb => ?_)) h1
  rw [Array.getElem?_eq_none hb] at he; cases he
 le := GW.le_trans h.le k.le
 new := fun b o hi => by
  rcases k.new b o hi with h1 | h1 | h1
  · exact h.new b o h1
  · rcases hF b o h1 with h2 | h2
    · exact .inr (.inl h2)
    · exact .inr (.inr h2)
  · exact .inr (.inr (Nat.le_trans h.size h1))
 newo := fun b hi => by
  rcases k.newo b hi with h1 | h1 | h1
  · exact h.newo b h1
  · rcases hFo b h1 with h2 | h2
    · exact .inr (.inl h2)
    · exact .inr (.inr h2)
  · exact .inr (.inr (Nat.le_trans h.size h1))
 drawn := by
  rcases h.drawn with h1 | h1
  · rcases k.drawn with h2 | h2
    · exact .inl (Nat.le_trans h1 h2)
    · exact .inr (h.nz ▸ h2)
  · exact .inr h1
 nz := k.nz.trans h.nz }
structure StepW (F : Nat → Nat → Prop) (Fo : Nat → Prop) (G G' : GW) : Prop where
 size : G.w.heap.size ≤ G'.w.heap.size
 cell : ∀ b o, b < G.w.heap.size → ¬ F b o → G'.w.cell? ⟨b, o, none⟩ = G.w.cell? ⟨b, o, none⟩ ∧ G'.w.frozen? ⟨b, o, none⟩ = G.w.frozen? ⟨b, o, none⟩
 blk : ∀ b, b < G.w.heap.size → (∀ o, ¬ F b o) → ¬ Fo b → G'.w.heap[b]? = G.w.heap[b]?
 obj : ∀ b es c, ¬ Fo b → G.w.heap[b]? = some (.map es c) → G'.w.heap[b]? = some (.map es c)
 le : G.leW G'
 new : ∀ b o, G'.im b o → G.im b o ∨ F b o ∨ G.w.heap.size ≤ b
 newo : ∀ b, G'.imo b → G.imo b ∨ Fo b ∨ G.w.heap.size ≤ b
 nz : G'.nz = G.nz
theorem Step.w {F : Nat → Nat → Prop} {Fo : Nat → Prop} {G G' : GW} (h : Step F Fo G G') : StepW F Fo G G' := ⟨h.size, h.cell, h.blk, h.obj, h.le.w, h.new, h.newo, h.nz⟩
@[reducible] def TDat : List Ty → Type
 | [] => Unit
 | t :: r => Dat t × TDat r
def satD : (ts : List Ty) → TDat ts → GW → List Value → Prop
 | [], _, _, vs => vs = []
 | t :: r, x, G, vs => ∃ v l, vs = v :: l ∧ RepV t x.1 G v ∧ satD r x.2 G l
theorem satD.monoW : ∀ {ts : List Ty} {x : TDat ts} {G G' : GW} {vs : List Value}, satD ts x G vs → G.leW G' → satD ts x G' vs
 | [], _, _, _, _, h, _ => h
 | _ :: _, _, _, _, _, ⟨v, l, e, h1, h2⟩, hg => ⟨v, l, e, h1.monoW hg, h2.monoW hg⟩
structure Eater where
 F : Nat → Nat → Prop
 Fo : Nat → Prop
 J : Value → GW → Prop
 stab : ∀ (v : Value) (G G' : GW) (F' : Nat → Nat → Prop) (Fo' : Nat → Prop), J v G → StepW F' Fo' G G' → (∀ b o, F b o → ¬ F' b o ∧ b < G.w.heap.size) → (∀ b, Fo b → ¬ Fo' b ∧ b < G.w.heap.size) → J v G'
inductive Kind where
 | mit (k v : Ty)
 | fm (k v : Ty)
 | kb (k v : Ty)
 | log (ts : List Ty)
 | wk (k v : Ty)
 deriving DecidableEq
@[reducible] def ObDat : Kind → Type
 | .mit k v => List (Dat k × Dat v) × (Dat k × Dat v) × Prop
 | .fm k v => List (Dat k × Dat v)
 | .kb k v => List (Dat k × Dat v)
 | .log ts => List (TDat ts) × Eater × (Eater → Prop)
 | .wk k v => List (Dat k × Dat v) × List (Dat k × Dat v) × (Dat k × Dat v) × Prop × Nat
inductive HObj where
 | none
 | dead
 | box (cs : AP)
 | spare (t : Ty)
 | row (t : Ty) (xs : List (Dat t))
 | frz (t : Ty) (xs : List (Dat t))
 | map (k v : Ty) (m : List (Dat k × Dat v))
 | frzb (cs : AP)
 | ob (κ : Kind) (x : ObDat κ)
def Free (w : World) (b o : Nat) : Prop := (∃ u, w.cell? ⟨b, o, none⟩ = some u) ∧ w.frozen? ⟨b, o, none⟩ = false
def MapRep (k v : Ty) (m : List (Dat k × Dat v)) (G : GW) (es : Array MapEntry) : Prop :=
 es.size = m.length ∧ ∀ (i : Nat) (e : MapEntry), es[i]? = some e → ∃ x : Dat k × Dat v, m[i]? = some x ∧ RepV k x.1 G e.key ∧ RepV v x.2 G e.val
theorem MapRep.monoW {k v : Ty} {m : List (Dat k × Dat v)} {G G' : GW} {es : Array MapEntry} (h : MapRep k v m G es) (hg : G.leW G') : MapRep k v m G' es :=
 ⟨h.1, fun i e he => let ⟨x, hx, h1, h2⟩ := h.2 i e he; ⟨x, hx, h1.monoW hg, h2.monoW hg⟩⟩
theorem MapRep.mono {k v : Ty} {m : List (Dat k × Dat v)} {G G' : GW} {es : Array MapEntry} (h : MapRep k v m G es) (hg : G.le G') : MapRep k v m G' es :=
 ⟨h.1, fun i e he => let ⟨x, hx, h1, h2⟩ := h.2 i e he; ⟨x, hx, h1.mono hg, h2.mono hg⟩⟩
def Born (es : Array MapEntry) (c : Nat) : Prop := (∀ e ∈ es.toList, e.born < c) ∧ (es.toList.map (·.born)).Nodup
def unmet {α : Type} (seen : Array Nat) (m : List α) (es : Array MapEntry) : List α := ((List.zip m es.toList).filter fun p => !seen.contains p.2.born).map Prod.fst
def obSat : (κ : Kind) → ObDat κ → Value → GW → Prop
 | .mit k v, (left, x, q), u, G => ∃ r, u = .pointer (some ⟨r, 0, none⟩) ∧ ((left = [] ∧ ¬ q ∧ ∃ a s l, G.w.heap[r]? = some (.mapIter none a s l)) ∨
     ∃ b es c seen, G.w.heap[r]? = some (.mapIter (some b) c seen c) ∧ G.imo b ∧ G.w.heap[b]? = some (.map es c) ∧ Born es c ∧ MapRep k v left G (es.filter fun e => !seen.contains e.born) ∧
      (q → ∃ e ∈ es.toList, seen.back? = some e.born ∧ RepV k x.1 G e.key ∧ RepV v x.2 G e.val))
 | .fm k v, m, u, G => ∃ b es c, u = .map (some b) ∧ G.imo b ∧ G.w.heap[b]? = some (.map es c) ∧ Born es c ∧ MapRep k v m G es
 | .kb k v, m, u, G => ∃ r b es c, u = .pointer (some ⟨r, 0, none⟩) ∧ CellsIm G r 0 [.map (some b)] ∧ G.imo b ∧ G.w.heap[b]? = some (.map es c) ∧ Born es c ∧ MapRep k v m G es
 | .log _, x, u, G => x.2.1.J u G
 | .wk k v, (m, left, x, q, r), u, G => ∃ b es c seen, u = .map (some b) ∧ b ≠ r ∧ G.w.heap[b]? = some (.map es c) ∧ MapRep k v m G es ∧ Born es c ∧ G.w.heap[r]? = some (.mapIter (some b) c seen c) ∧ left = unmet seen m es ∧
     (q → ∃ (j : Nat) (e : MapEntry), es[j]? = some e ∧ m[j]? = some x ∧ seen.back? = some e.born)
def obF : (κ : Kind) → ObDat κ → Value → Nat → Nat → Prop
 | .log _, x, _, b, o => x.2.1.F b o
 | .mit _ _, _, .pointer (some a), b, _ => b = a.block
 | .wk _ _, x, _, b, _ => b = x.2.2.2.2
 | _, _, _, _, _ => False
def obFo : (κ : Kind) → ObDat κ → Value → Nat → Prop
 | .log _, x, _, b => x.2.1.Fo b
 | .mit _ _, _, .pointer (some a), b => b = a.block
 | .wk _ _, x, .map (some a), b => b = a ∨ b = x.2.2.2.2
 | _, _, _, _ => False
def satH : HObj → Value → Asg → GW → Prop
 | .none, _, _, _ => True
 | .dead, _, _, _ => True
 | .box cs, v, β, G => ∃ (b : Nat) (l : List Value), v = .pointer (some ⟨b, 0, none⟩) ∧ satL cs β G l ∧ ∀ j u, l[j]? = some u → G.w.cell? ⟨b, j, none⟩ = some u ∧ G.w.frozen? ⟨b, j, none⟩ = false
 | .spare t, v, _, G => ∃ base len cap, v = .slice base len cap ∧ ∀ a, base = some a → (0 < cap → a.spot = none) ∧ ∀ j, len * t.size ≤ j → j < cap * t.size → Free G.w a.block (a.off + j)
 | .row t xs, v, _, G => ∃ base cap, v = .slice base xs.length cap ∧ xs.length ≤ cap ∧ cap ≤ maxLen ∧ (base = none → cap = 0) ∧ ∀ a, base = some a → (0 < cap → a.spot = none) ∧ (∀ j, j < cap * t.size → Free G.w a.block (a.off + j)) ∧
     ∀ (i : Nat) (x : Dat t), xs[i]? = some x → ∃ cells : List Value, (∀ j u, cells[j]? = some u → G.w.cell? ⟨a.block, a.off + i * t.size + j, none⟩ = some u) ∧ Rep t x G cells
 | .frz t xs, v, _, G => RepV (.sl t) xs G v
 | .frzb cs, v, _, G => ∃ (b : Nat) (l : List Value), v = .pointer (some ⟨b, 0, none⟩) ∧ satL cs (fun _ => none) G l ∧ CellsIm G b 0 l
 | .map k v m, u, _, G => ∃ b es c, u = .map (some b) ∧ G.w.heap[b]? = some (.map es c) ∧ MapRep k v m G es ∧ Born es c
 | .ob κ x, u, _, G => obSat κ x u G
def fpc : HObj → Value → Nat → Nat → Prop
 | .box _, .pointer (some a), b, _ => b = a.block
 | .spare t, .slice (some a) len cap, b, o => b = a.block ∧ a.off + len * t.size ≤ o ∧ o < a.off + cap * t.size
 | .row t _, .slice (some a) _ cap, b, o => b = a.block ∧ a.off ≤ o ∧ o < a.off + cap * t.size
 | .ob κ x, v, b, o => obF κ x v b o
 | _, _, _, _ => False
def fpo : HObj → Value → Nat → Prop
 | .map _ _ _, .map (some r), b => b = r
 | .ob κ x, v, b => obFo κ x v b
 | _, _, _ => False
theorem satH.stepW {o : HObj} {v : Value} {β β' : Asg} {F : Nat → Nat → Prop} {Fo : Nat → Prop} {G G' : GW} (h : satH o v β G) (hs : StepW F Fo G G') (hb : β.le β')
    (hd : ∀ b i, fpc o v b i → ¬ F b i ∧ b < G.w.heap.size) (hdo : ∀ b, fpo o v b → ¬ Fo b ∧ b < G.w.heap.size) : satH o v β' G' := by
 cases o with
 | none => trivial
 | dead => trivial
 | box cs =>
  obtain ⟨b, l, rfl, h1, h2⟩ := h
  refine ⟨b, l, rfl, satL.monoW cs h1 hb hs.le, fun j u hu => ?_⟩
  have h3 := hd b j rfl
  have h4 := hs.cell b j h3.2 h3.1
  exact ⟨h4.1.trans (h2 j u hu).1, h4.2.trans (h2 j u hu).2⟩
 | spare t =>
  obtain ⟨base, len, cap, rfl, h1⟩ := h
  refine ⟨base, len, cap, rfl, fun a ha => ⟨(h1 a ha).1, fun j h2 h3 => ?_⟩⟩
  subst ha
  have h4 := (h1 a rfl).2 j h2 h3
  have h5 := hd a.block (a.off + j) ⟨rfl, by omega, by omega⟩
  have h6 := hs.cell a.block (a.off + j) h5.2 h5.1
  exact ⟨by rw [h6.1]; exact h4.1, h6.2.trans h4.2⟩
 | row t xs =>
  obtain ⟨base, cap, rfl, h1, h1', h1'', h2⟩ := h
  refine ⟨base, cap, rfl, h1, h1', h1'', fun a ha => ⟨(h2 a ha).1, fun j h3 => ?_, fun i x hx => ?_⟩⟩
  · subst ha
    have h4 := (h2 a rfl).2.1 j h3
    have h5 := hd a.block (a.off + j) ⟨rfl, by omega, by omega⟩
    have h6 := hs.cell a.block (a.off + j) h5.2 h5.1
    exact ⟨by rw [h6.1]; exact h4.1, h6.2.trans h4.2⟩
  · subst ha
    obtain ⟨cells, hc, hr⟩ := (h2 a rfl).2.2 i x hx
    refine ⟨cells, fun j u hu => ?_, Rep.monoW t hr hs.le⟩
    have hi : i < xs.length := (List.getElem?_eq_some_iff.1 hx).1
    have hj : j < t.size := by rw [← Rep.length t hr]; exact (List.getElem?_eq_some_iff.1 hu).1
    have hm : i * t.size + t.size ≤ cap * t.size := by rw [← Nat.succ_mul]; exact Nat.mul_le_mul_right _ (by omega)
    have h5 := hd a.block (a.off + i * t.size + j) ⟨rfl, by omega, by omega⟩
    exact (hs.cell a.block (a.off + i * t.size + j) h5.2 h5.1).1.trans (hc j u hu)
 | frz t xs => exact RepV.monoW h hs.le
 | frzb cs =>
  obtain ⟨b, l, rfl, h1, h2⟩ := h
  exact ⟨b, l, rfl, satL.monoW cs h1 (Asg.le_refl _) hs.le, h2.monoW hs.le⟩
 | map k w m =>
  obtain ⟨b, es, c, rfl, h1, h2, h3⟩ := h
  exact ⟨b, es, c, rfl, hs.obj b es c (hdo b rfl).1 h1, h2.monoW hs.le, h3⟩
 | ob κ x =>
  cases κ with
  | mit k w =>
   obtain ⟨left, y, q⟩ := x
   obtain ⟨r, rfl, h⟩ := h
   have hr : G'.w.heap[r]? = G.w.heap[r]? := hs.blk r (hdo r rfl).2 (fun o hf => (hd r o rfl).1 hf) (hdo r rfl).1
   refine ⟨r, rfl, ?_⟩
   rcases h with ⟨h1, h2, a, s, l, h3⟩ | ⟨b, es, c, seen, h1, h2, h3, h4, h5, h6⟩
   · exact .inl ⟨h1, h2, a, s, l, hr.trans h3⟩
   · exact .inr ⟨b, es, c, seen, hr.trans h1, (hs.le.2 b es c h2 h3).1, (hs.le.2 b es c h2 h3).2, h4, h5.monoW hs.le, fun hq => by
      obtain ⟨e, he, k1, k2, k3⟩ := h6 hq
      exact ⟨e, he, k1, k2.monoW hs.le, k3.monoW hs.le⟩⟩
  | kb k w =>
   obtain ⟨r, b, es, c, rfl, h0, h1, h2, h3, h4⟩ := h
   exact ⟨r, b, es, c, rfl, h0.monoW hs.le, (hs.le.2 b es c h1 h2).1, (hs.le.2 b es c h1 h2).2, h3, h4.monoW hs.le⟩
  | fm k w =>
   obtain ⟨b, es, c, rfl, h1, h2, h3, h4⟩ := h
   exact ⟨b, es, c, rfl, (hs.le.2 b es c h1 h2).1, (hs.le.2 b es c h1 h2).2, h3, h4.monoW hs.le⟩
  | log t => exact x.2.1.stab v G G' F Fo h hs (fun b o hf => hd b o hf) (fun b hf => hdo b hf)
  | wk k w =>
   obtain ⟨m, left, y, q, r⟩ := x
   obtain ⟨b, es, c, seen, rfl, h0, h1, h2, h3, h4, h5, h6⟩ := h
   have hr : G'.w.heap[r]? = G.w.heap[r]? := hs.blk r (hdo r (.inr rfl)).2 (fun o hf => (hd r o rfl).1 hf) (hdo r (.inr rfl)).1
   exact ⟨b, es, c, seen, rfl, h0, hs.obj b es c (hdo b (.inl rfl)).1 h1, h2.monoW hs.le, h3, hr.trans h4, h5, h6⟩
theorem satH.step {o : HObj} {v : Value} {β β' : Asg} {F : Nat → Nat → Prop} {Fo : Nat → Prop} {G G' : GW} (h : satH o v β G) (hs : Step F Fo G G') (hb : β.le β')
    (hd : ∀ b i, fpc o v b i → ¬ F b i ∧ b < G.w.heap.size) (hdo : ∀ b, fpo o v b → ¬ Fo b ∧ b < G.w.heap.size) : satH o v β' G' := h.stepW hs.w hb hd hdo
def ImObj (o : Obj) : Prop := (∃ es c, o = Obj.map es c) ∨ o = .deferred (some [])
structure HeapOK (hp : Nat → HObj) (β : Asg) (G : GW) : Prop where
 no : ∀ h, hp h = .none → β h = none
 sat : ∀ h, hp h ≠ .none → ∃ v, β h = some v ∧ satH (hp h) v β G
 im : ∀ h v, β h = some v → ∀ b o, fpc (hp h) v b o → ¬ G.im b o ∧ b < G.w.heap.size
 imo : ∀ h v, β h = some v → ∀ b, fpo (hp h) v b → ¬ G.imo b ∧ b < G.w.heap.size
 dis : ∀ h h' v v', h ≠ h' → β h = some v → β h' = some v' → ∀ b o, fpc (hp h) v b o → ¬ fpc (hp h') v' b o
 diso : ∀ h h' v v', h ≠ h' → β h = some v → β h' = some v' → ∀ b, fpo (hp h) v b → ¬ fpo (hp h') v' b
 old : ∀ b o, G.im b o → b < G.w.heap.size
 oldo : ∀ b, G.imo b → ∃ o, G.w.heap[b]? = some o ∧ ImObj o
theorem HeapOK.oldo_lt {hp : Nat → HObj} {β : Asg} {G : GW} (H : HeapOK hp β G) {b : Nat} (h : G.imo b) : b < G.w.heap.size := by
 obtain ⟨o, e, _⟩ := H.oldo b h
 exact (Array.getElem?_eq_some_iff.1 e).1
structure HeapJ (hp : Nat → HObj) (β : Asg) (G : GW) : Prop where
 no : ∀ h, hp h = .none → β h = none
 sat : ∀ h, hp h ≠ .none → ∃ v, β h = some v ∧ satH (hp h) v β G
 im : ∀ h v, β h = some v → ∀ b o, fpc (hp h) v b o → ¬ G.im b o ∧ b < G.w.heap.size
 imo : ∀ h v, β h = some v → ∀ b, fpo (hp h) v b → ¬ G.imo b ∧ b < G.w.heap.size
 dis : ∀ h h' v v', h ≠ h' → β h = some v → β h' = some v' → ∀ b o, fpc (hp h) v b o → ¬ fpc (hp h') v' b o
 diso : ∀ h h' v v', h ≠ h' → β h = some v → β h' = some v' → ∀ b, fpo (hp h) v b → ¬ fpo (hp h') v' b
theorem HeapOK.j {hp : Nat → HObj} {β : Asg} {G : GW} (H : HeapOK hp β G) : HeapJ hp β G := ⟨H.no, H.sat, H.im, H.imo, H.dis, H.diso⟩
structure OldOK (G : GW) : Prop where
 old : ∀ b o, G.im b o → b < G.w.heap.size
 oldo : ∀ b, G.imo b → ∃ o, G.w.heap[b]? = some o ∧ ImObj o
theorem HeapOK.o {hp : Nat → HObj} {β : Asg} {G : GW} (H : HeapOK hp β G) : OldOK G := ⟨H.old, H.oldo⟩
theorem HeapJ.ok {hp : Nat → HObj} {β : Asg} {G : GW} (H : HeapJ hp β G) (O : OldOK G) : HeapOK hp β G := ⟨H.no, H.sat, H.im, H.imo, H.dis, H.diso, O.old, O.oldo⟩
theorem HeapJ.keep {hp : Nat → HObj} {β : Asg} {G G' : GW} {F : Nat → Nat → Prop} {Fo : Nat → Prop} (H : HeapJ hp β G) (hs : StepW F Fo G G') (hF : ∀ h v, β h = some v → ∀ b o, fpc (hp h) v b o → ¬ F b o) (hFo : ∀ h v, β h = some v → ∀ b, fpo (hp h) v b → ¬ Fo b) : HeapJ hp β G' := by
 refine ⟨H.no, fun h e => ?_, fun h v hv b o hf => ?_, fun h v hv b hf => ?_, H.dis, H.diso⟩
 · obtain ⟨v, hv, hsv⟩ := H.sat h e
   exact ⟨v, hv, hsv.stepW hs (Asg.le_refl β) (fun b i hf => ⟨hF h v hv b i hf, (H.im h v hv b i hf).2⟩) (fun b hf => ⟨hFo h v hv b hf, (H.imo h v hv b hf).2⟩)⟩
 · have h1 := H.im h v hv b o hf
   refine ⟨fun hi => ?_, Nat.lt_of_lt_of_le h1.2 hs.size⟩
   rcases hs.new b o hi with h2 | h2 | h2
   · exact h1.1 h2
   · exact hF h v hv b o hf h2
   · omega
 · have h1 := H.imo h v hv b hf
   refine ⟨fun hi => ?_, Nat.lt_of_lt_of_le h1.2 hs.size⟩
   rcases hs.newo b hi with h2 | h2 | h2
   · exact h1.1 h2
   · exact hFo h v hv b hf h2
   · omega
theorem HeapOK.gen {hp hp' : Nat → HObj} {β β' : Asg} {G G' : GW} {F : Nat → Nat → Prop} {Fo : Nat → Prop} (K : Nat → Prop) (H : HeapOK hp β G) (hs : Step F Fo G G') (hb : β.le β')
    (hK : ∀ h, ¬ K h → hp' h = hp h ∧ β' h = β h)
    (hF : ∀ b o, F b o → ∃ h v, K h ∧ β h = some v ∧ fpc (hp h) v b o) (hFo : ∀ b, Fo b → ∃ h v, K h ∧ β h = some v ∧ fpo (hp h) v b)
    (hn : ∀ h, K h → hp' h = .none → β' h = none) (hsat : ∀ h, K h → hp' h ≠ .none → ∃ v, β' h = some v ∧ satH (hp' h) v β' G')
    (hfp : ∀ h v, K h → β' h = some v → ∀ b o, fpc (hp' h) v b o → ((∃ h0 v0, K h0 ∧ β h0 = some v0 ∧ fpc (hp h0) v0 b o) ∨ G.w.heap.size ≤ b) ∧ ¬ G'.im b o ∧ b < G'.w.heap.size)
    (hfpo : ∀ h v, K h → β' h = some v → ∀ b, fpo (hp' h) v b → ((∃ h0 v0, K h0 ∧ β h0 = some v0 ∧ fpo (hp h0) v0 b) ∨ G.w.heap.size ≤ b) ∧ ¬ G'.imo b ∧ b < G'.w.heap.size)
    (hdis : ∀ h h' v v', K h → K h' → h ≠ h' → β' h = some v → β' h' = some v' → ∀ b o, fpc (hp' h) v b o → ¬ fpc (hp' h') v' b o)
    (hdiso : ∀ h h' v v', K h → K h' → h ≠ h' → β' h = some v → β' h' = some v' → ∀ b, fpo (hp' h) v b → ¬ fpo (hp' h') v' b)
    (hold : ∀ b o, G'.im b o → b < G'.w.heap.size) (holdo : ∀ b, G'.imo b → ∃ o, G'.w.heap[b]? = some o ∧ ImObj o) : HeapOK hp' β' G' := by
 have hfree : ∀ h v, ¬ K h → β h = some v → ∀ b o, fpc (hp h) v b o → ¬ F b o := fun h v hk hv b o hf hF' => by
  obtain ⟨h0, v0, hk0, hv0, hf0⟩ := hF b o hF'
  exact H.dis h h0 v v0 (fun e => hk (e ▸ hk0)) hv hv0 b o hf hf0
 have hfreeo : ∀ h v, ¬ K h → β h = some v → ∀ b, fpo (hp h) v b → ¬ Fo b := fun h v hk hv b hf hF' => by
  obtain ⟨h0, v0, hk0, hv0, hf0⟩ := hFo b hF'
  exact H.diso h h0 v v0 (fun e => hk (e ▸ hk0)) hv hv0 b hf hf0
 refine ⟨fun h e => ?_, fun h e => ?_, fun h v hv b o hf => ?_, fun h v hv b hf => ?_, fun h h' v v' hne hv hv' b o hf hf' => ?_, fun h h' v v' hne hv hv' b hf hf' => ?_, hold, holdo⟩
 · by_cases hk : K h
   · exact hn h hk e
   · rw [(hK h hk).2]; exact H.no h (by rw [← (hK h hk).1]; exact e)
 · by_cases hk : K h
   · exact hsat h hk e
   · obtain ⟨e1, e2⟩ := hK h hk
     rw [e1] at e ⊢
     obtain ⟨v, hv, hsv⟩ := H.sat h e
     refine ⟨v, by rw [e2]; exact hv, hsv.step hs hb (fun b i hf => ⟨hfree h v hk hv b i hf, (H.im h v hv b i hf).2⟩) (fun b hf => ⟨hfreeo h v hk hv b hf, (H.imo h v hv b hf).2⟩)⟩
 · by_cases hk : K h
   · exact (hfp h v hk hv b o hf).2
   · obtain ⟨e1, e2⟩ := hK h hk
     rw [e1] at hf; rw [e2] at hv
     have h1 := H.im h v hv b o hf
     refine ⟨fun hi => ?_, Nat.lt_of_lt_of_le h1.2 hs.size⟩
     rcases hs.new b o hi with h2 | h2 | h2
     · exact h1.1 h2
     · exact hfree h v hk hv b o hf h2
     · omega
 · by_cases hk : K h
   · exact (hfpo h v hk hv b hf).2
   · obtain ⟨e1, e2⟩ := hK h hk
     rw [e1] at hf; rw [e2] at hv
     have h1 := H.imo h v hv b hf
     refine ⟨fun hi => ?_, Nat.lt_of_lt_of_le h1.2 hs.size⟩
     rcases hs.newo b hi with h2 | h2 | h2
     · exact h1.1 h2
     · exact hfreeo h v hk hv b hf h2
     · omega
 · by_cases hk : K h
   · by_cases hk' : K h'
     · exact hdis h h' v v' hk hk' hne hv hv' b o hf hf'
     · obtain ⟨e1, e2⟩ := hK h' hk'
       rw [e1] at hf'; rw [e2] at hv'
       rcases (hfp h v hk hv b o hf).1 with ⟨h0, v0, hk0, hv0, hf0⟩ | h1
       · exact H.dis h0 h' v0 v' (fun e => hk' (e ▸ hk0)) hv0 hv' b o hf0 hf'
       · have := (H.im h' v' hv' b o hf').2; omega
   · obtain ⟨e1, e2⟩ := hK h hk
     rw [e1] at hf; rw [e2] at hv
     by_cases hk' : K h'
     · rcases (hfp h' v' hk' hv' b o hf').1 with ⟨h0, v0, hk0, hv0, hf0⟩ | h1
       · exact H.dis h h0 v v0 (fun e => hk (e ▸ hk0)) hv hv0 b o hf hf0
       · have := (H.im h v hv b o hf).2; omega
     · obtain ⟨e1', e2'⟩ := hK h' hk'
       rw [e1'] at hf'; rw [e2'] at hv'
       exact H.dis h h' v v' hne hv hv' b o hf hf'
 · by_cases hk : K h
   · by_cases hk' : K h'
     · exact hdiso h h' v v' hk hk' hne hv hv' b hf hf'
     · obtain ⟨e1, e2⟩ := hK h' hk'
       rw [e1] at hf'; rw [e2] at hv'
       rcases (hfpo h v hk hv b hf).1 with ⟨h0, v0, hk0, hv0, hf0⟩ | h1
       · exact H.diso h0 h' v0 v' (fun e => hk' (e ▸ hk0)) hv0 hv' b hf0 hf'
       · have := (H.imo h' v' hv' b hf').2; omega
   · obtain ⟨e1, e2⟩ := hK h hk
     rw [e1] at hf; rw [e2] at hv
     by_cases hk' : K h'
     · rcases (hfpo h' v' hk' hv' b hf').1 with ⟨h0, v0, hk0, hv0, hf0⟩ | h1
       · exact H.diso h h0 v v0 (fun e => hk (e ▸ hk0)) hv hv0 b hf hf0
       · have := (H.imo h v hv b hf).2; omega
     · obtain ⟨e1', e2'⟩ := hK h' hk'
       rw [e1'] at hf'; rw [e2'] at hv'
       exact H.diso h h' v v' hne hv hv' b hf hf'
end Go.Gv

/- The state of a walk, its invariant, and what one operation does to it. -/
namespace Go.Gv
open Go
abbrev Path := List (Nat × Bool)
structure PA where
 path : Path
 ap : AP
structure St where
 sl : Nat → PA
 hp : Nat → HObj
structure Ctx where
 G0 : GW
 F0 : Nat → Nat → Prop
 Fo0 : Nat → Prop
 glob : Nat → Option ((t : Ty) × Dat t)
 N : Nat
 m : Nat := 0
def globOK (t : Ty) (x : Dat t) (G : GW) (g : Nat) : Prop := (∃ cells, CellsIm G g 0 cells ∧ Rep t x G cells) ∧ G.im g t.size ∧ G.w.cell? ⟨g, t.size, none⟩ = none
theorem globOK.mono {t : Ty} {x : Dat t} {G G' : GW} {g : Nat} (h : globOK t x G g) (hg : G.le G') : globOK t x G' g := by
 obtain ⟨⟨cells, h1, h2⟩, h3, h4⟩ := h
 exact ⟨⟨cells, h1.mono hg, h2.mono t hg⟩, (hg.1 g _ h3).1, (hg.1 g _ h3).2.trans h4⟩
theorem globOK.sat {t : Ty} {x : Dat t} {G : GW} {g : Nat} (h : globOK t x G g) (β : Asg) : Gv.sat (.ptr t x) β G (.pointer (some ⟨g, 0, none⟩)) := by
 obtain ⟨⟨cells, h1, h2⟩, _⟩ := h
 unfold Gv.sat
 exact ⟨g, 0, cells, rfl, h1, h2⟩
structure HInv (C : Ctx) (hp : Nat → HObj) (β : Asg) (G : GW) : Prop where
 heap : HeapOK hp β G
 step : Step C.F0 C.Fo0 C.G0 G
 own : ∀ h v, β h = some v → ∀ b o, fpc (hp h) v b o → C.F0 b o ∨ C.G0.w.heap.size ≤ b
 owno : ∀ h v, β h = some v → ∀ b, fpo (hp h) v b → C.Fo0 b ∨ C.G0.w.heap.size ≤ b
 glob : ∀ g t x, C.glob g = some ⟨t, x⟩ → globOK t x G g
def pathOK (γ : Nat → Bool) (p : Path) : Prop := ∀ e ∈ p, γ e.1 = e.2
def satP (γ : Nat → Bool) (p : PA) (β : Asg) (G : GW) (v : Value) : Prop := (pathOK γ p.path → sat p.ap β G v) ∧ (¬ pathOK γ p.path → v = undef)
theorem satP.mono {γ : Nat → Bool} {p : PA} {β β' : Asg} {G G' : GW} {v : Value} (h : satP γ p β G v) (hb : β.le β') (hg : G.le G') : satP γ p β' G' v :=
 ⟨fun hp => sat.mono _ (h.1 hp) hb hg, h.2⟩
def Marks (m : Nat) (G : GW) (ds : List Deferred) : Prop := ∃ l : List Nat, ds = l.map (fun D => { target := .collected D, args := #[] }) ∧ l.Nodup ∧ ∀ D ∈ l, m ≤ D ∧ G.imo D ∧ G.w.heap[D]? = some (.deferred (some []))
theorem Marks.nil (m : Nat) (G : GW) : Marks m G [] := ⟨[], rfl, List.nodup_nil, fun _ h => by cases h⟩
theorem Marks.mono {m : Nat} {G G' : GW} {ds : List Deferred} (h : Marks m G ds) (hg : G.le G') : Marks m G' ds := by
 obtain ⟨l, e, hn, h⟩ := h
 exact ⟨l, e, hn, fun D hD => ⟨(h D hD).1, (hg.2 D (h D hD).2.1).1, (hg.2 D (h D hD).2.1).2.trans (h D hD).2.2⟩⟩
theorem Marks.zero {m : Nat} {G : GW} {ds : List Deferred} (h : Marks m G ds) : Marks 0 G ds := by
 obtain ⟨l, e, hn, h⟩ := h
 exact ⟨l, e, hn, fun D hD => ⟨Nat.zero_le _, (h D hD).2⟩⟩
structure Holds (C : Ctx) (γ : Nat → Bool) (st : St) (β : Asg) (a : Act) (G : GW) : Prop where
 slots : ∀ s, satP γ (st.sl s) β G (a.tmps.getD s undef)
 size : a.tmps.size = C.N
 defers : Marks C.m G a.defers
 inv : HInv C st.hp β G
def St.put (st : St) (d : Option Nat) (p : PA) : St := { st with sl := match d with
 | some d => fun s => if s = d then p else st.sl s
 | none => st.sl }
def hset (hp : Nat → HObj) : List (Nat × HObj) → Nat → HObj
 | [] => hp
 | (h, o) :: r => fun n => if n = h then o else hset hp r n
def St.hset (st : St) (l : List (Nat × HObj)) : St := { st with hp := Gv.hset st.hp l }
def dstOK (d : Option Nat) (N : Nat) : Bool := match d with
 | some d => Nat.blt d N
 | none => true
theorem getD_put (a : Act) (d : Nat) (v : Value) (s : Nat) (hd : d < a.tmps.size) : (a.put (some d) v).tmps.getD s undef = if s = d then v else a.tmps.getD s undef := by
 simp only [Act.put, Array.getD_eq_getD_getElem?, Array.getElem?_setIfInBounds]
 by_cases h : d = s
 · subst h; simp [hd]
 · have h' : ¬ s = d := fun e => h e.symm
   simp [h, h']
theorem put_size (a : Act) (d : Option Nat) (v : Value) : (a.put d v).tmps.size = a.tmps.size := by
 cases d <;> simp [Act.put]
theorem put_defers (a : Act) (d : Option Nat) (v : Value) : (a.put d v).defers = a.defers := by
 cases d <;> simp [Act.put]
theorem Holds.next {C : Ctx} {γ : Nat → Bool} {st : St} {β β' : Asg} {a : Act} {G G' : GW} (H : Holds C γ st β a G) (d : Option Nat) (v : Value) (p : PA) (hw : List (Nat × HObj))
    (hd : dstOK d C.N = true) (hb : β.le β') (hg : G.le G') (hv : satP γ p β' G' v) (hi : HInv C (hset st.hp hw) β' G') :
    Holds C γ ((st.put d p).hset hw) β' (a.put d v) G' := by
 refine ⟨fun s => ?_, by rw [put_size]; exact H.size, by rw [put_defers]; exact H.defers.mono hg, hi⟩
 cases d with
 | none => exact (H.slots s).mono hb hg
 | some d =>
  have hlt : d < a.tmps.size := by rw [H.size]; exact Nat.le_of_ble_eq_true hd
  rw [getD_put a d v s hlt]
  show satP γ (if s = d then p else st.sl s) β' G' _
  by_cases h : s = d
  · simp only [h, if_true]; exact hv
  · simp only [h, if_false]; exact (H.slots s).mono hb hg
theorem hset_nil (hp : Nat → HObj) : hset hp [] = hp := rfl
theorem HInv.same {C : Ctx} {hp : Nat → HObj} {β : Asg} {G G' : GW} (H : HInv C hp β G) (hs : Step (fun _ _ => False) (fun _ => False) G G')
    (hold : ∀ b o, G'.im b o → b < G'.w.heap.size) (holdo : ∀ b, G'.imo b → ∃ o, G'.w.heap[b]? = some o ∧ ImObj o) : HInv C hp β G' := {
 heap := H.heap.gen (hp' := hp) (β' := β) (fun _ => False) hs (Asg.le_refl β) (fun _ _ => ⟨rfl, rfl⟩) (fun _ _ h => h.elim) (fun _ h => h.elim) (fun _ h => h.elim) (fun _ h => h.elim)
  (fun _ _ h => h.elim) (fun _ _ h => h.elim) (fun _ _ _ _ h => h.elim) (fun _ _ _ _ h => h.elim) hold holdo
 step := H.step.trans hs (fun _ _ h => h.elim) (fun _ h => h.elim)
 own := H.own
 owno := H.owno
 glob := fun g t x h => (H.glob g t x h).mono hs.le }
theorem HInv.drew {C : Ctx} {hp : Nat → HObj} {β : Asg} {G : GW} (H : HInv C hp β G) : HInv C hp β { G with w := G.w.drew } :=
 H.same ⟨rfl, rfl, rfl, Nat.le_refl _, fun _ _ _ _ => ⟨rfl, rfl⟩, fun _ _ _ _ => rfl, fun _ _ _ _ h => h, ⟨fun _ _ h => ⟨h, rfl⟩, fun _ h => ⟨h, rfl⟩⟩, fun _ _ h => .inl h, fun _ h => .inl h, .inl (Nat.le_succ _), rfl⟩
  H.heap.old H.heap.oldo
theorem GW.le_drew (G : GW) : G.le { G with w := G.w.drew } := ⟨fun _ _ h => ⟨h, rfl⟩, fun _ h => ⟨h, rfl⟩⟩
theorem heap_alloc_lt (w : World) (o : Obj) (b : Nat) (h : b < w.heap.size) : (w.alloc o).heap[b]? = w.heap[b]? := by
 simp only [World.alloc, Array.getElem?_push]; rw [if_neg (by omega)]
theorem cell_alloc_lt (w : World) (o : Obj) (b i : Nat) (h : b < w.heap.size) : (w.alloc o).cell? ⟨b, i, none⟩ = w.cell? ⟨b, i, none⟩ := by
 simp only [World.cell?, heap_alloc_lt w o b h]
theorem frozen_alloc_lt (w : World) (o : Obj) (b i : Nat) (h : b < w.heap.size) : (w.alloc o).frozen? ⟨b, i, none⟩ = w.frozen? ⟨b, i, none⟩ := by
 simp only [World.frozen?, heap_alloc_lt w o b h]
def GW.alloc (G : GW) (o : Obj) (im : Nat → Prop) (imo : Prop) : GW :=
 { w := G.w.alloc o, im := fun b i => G.im b i ∨ (b = G.w.heap.size ∧ im i), imo := fun b => G.imo b ∨ (b = G.w.heap.size ∧ imo), nz := G.nz }
theorem GW.alloc_step {hp : Nat → HObj} {β : Asg} {G : GW} (H : HeapOK hp β G) (o : Obj) (im : Nat → Prop) (imo : Prop) : Step (fun _ _ => False) (fun _ => False) G (G.alloc o im imo) := {
 os := rfl
 tape := rfl
 output := rfl
 size := by simp [GW.alloc]
 cell := fun b i hb _ => ⟨cell_alloc_lt _ _ _ _ hb, frozen_alloc_lt _ _ _ _ hb⟩
 blk := fun b hb _ _ => heap_alloc_lt _ _ _ hb
 obj := fun b es c _ h => by
  have hb : b < G.w.heap.size := (Array.getElem?_eq_some_iff.1 h).1
  exact (heap_alloc_lt _ _ _ hb).trans h
 le := ⟨fun b i h => ⟨.inl h, cell_alloc_lt _ _ _ _ (H.old b i h)⟩, fun b h => ⟨.inl h, heap_alloc_lt _ _ _ (H.oldo_lt h)⟩⟩
 new := fun b i h => h.elim .inl fun h => .inr (.inr (Nat.le_of_eq h.1.symm))
 newo := fun b h => h.elim .inl fun h => .inr (.inr (Nat.le_of_eq h.1.symm))
 drawn := .inl (Nat.le_refl _)
 nz := rfl }
theorem GW.alloc_oldo {hp : Nat → HObj} {β : Asg} {G : GW} (H : HeapOK hp β G) (o : Obj) (im : Nat → Prop) (imo : Prop) (hm : imo → ImObj o) : ∀ b, (G.alloc o im imo).imo b → ∃ o', (G.alloc o im imo).w.heap[b]? = some o' ∧ ImObj o' := by
 intro b h
 rcases h with h | ⟨e, h⟩
 · obtain ⟨o', hh, hi⟩ := H.oldo b h
   exact ⟨o', (heap_alloc_lt _ _ _ (H.oldo_lt h)).trans hh, hi⟩
 · subst e
   exact ⟨o, show (G.w.heap.push o)[G.w.heap.size]? = _ by simp, hm h⟩
theorem HInv.alloc_im {C : Ctx} {hp : Nat → HObj} {β : Asg} {G : GW} (H : HInv C hp β G) (o : Obj) (im : Nat → Prop) (imo : Prop) (hm : imo → ImObj o) : HInv C hp β (G.alloc o im imo) := by
 refine H.same (GW.alloc_step H.heap o im imo) (fun b i h => ?_) (GW.alloc_oldo H.heap o im imo hm)
 show b < (G.w.alloc o).heap.size
 rw [World.size_alloc]
 rcases h with h | h
 · have := H.heap.old b i h; omega
 · omega
theorem CellsIm.alloc (G : GW) (cs : Array Value) (t : TypeId) (imo : Prop) : CellsIm (G.alloc (.cells cs t) (fun _ => True) imo) G.w.heap.size 0 cs.toList := by
 intro j v hv
 refine ⟨.inr ⟨rfl, trivial⟩, ?_⟩
 show (G.w.alloc (.cells cs t)).cell? ⟨G.w.heap.size, 0 + j, none⟩ = some v
 rw [World.cell?_alloc_new, Nat.zero_add]
 simpa using hv
theorem HInv.alloc_own {C : Ctx} {hp : Nat → HObj} {β : Asg} {G : GW} (H : HInv C hp β G) (o : Obj) (im : Nat → Prop) (imo : Prop) (hm : imo → ImObj o) (h : Nat) (ob : HObj) (v : Value) (hn : hp h = .none)
    (hob : ob ≠ .none) (hsat : satH ob v (fun n => if n = h then some v else β n) (G.alloc o im imo))
    (hfp : ∀ b i, fpc ob v b i → b = G.w.heap.size ∧ ¬ im i) (hfpo : ∀ b, fpo ob v b → b = G.w.heap.size ∧ ¬ imo) :
    HInv C (hset hp [(h, ob)]) (fun n => if n = h then some v else β n) (G.alloc o im imo) ∧ β.le (fun n => if n = h then some v else β n) := by
 have hst := GW.alloc_step H.heap o im imo
 have hβ : β h = none := H.heap.no h hn
 have hle : β.le (fun n => if n = h then some v else β n) := fun n u e => by
  by_cases hnh : n = h
  · subst hnh; rw [hβ] at e; cases e
  · simp [hnh, e]
 have hold : ∀ b i, (G.alloc o im imo).im b i → b < (G.alloc o im imo).w.heap.size := fun b i hi => by
  show b < (G.w.alloc o).heap.size
  rw [World.size_alloc]
  rcases hi with hi | hi
  · have := H.heap.old b i hi; omega
  · omega
 have holdo := GW.alloc_oldo H.heap o im imo hm
 have hsz : (G.alloc o im imo).w.heap.size = G.w.heap.size + 1 := World.size_alloc _ _
 refine ⟨⟨H.heap.gen (fun n => n = h) hst hle (fun n hne => ⟨by simp [hset, hne], by simp [hne]⟩) (fun _ _ hf => hf.elim) (fun _ hf => hf.elim)
     (fun n e hno => (by subst e; simp [hset] at hno; exact (hob hno).elim)) (fun n e _ => (by subst e; exact ⟨v, by simp, by simpa [hset] using hsat⟩)) ?_ ?_
     (fun n n' _ _ e e' hne => (hne (e.trans e'.symm)).elim) (fun n n' _ _ e e' hne => (hne (e.trans e'.symm)).elim) hold holdo, ?_, ?_, ?_, ?_⟩, hle⟩
 · intro n u e hu b i hf
   subst e
   simp at hu; subst hu
   simp [hset] at hf
   obtain ⟨e1, e2⟩ := hfp b i hf
   refine ⟨.inr (by omega), fun hi => ?_, by omega⟩
   rcases hi with hi | hi
   · have := H.heap.old b i hi; omega
   · exact e2 hi.2
 · intro n u e hu b hf
   subst e
   simp at hu; subst hu
   simp [hset] at hf
   obtain ⟨e1, e2⟩ := hfpo b hf
   refine ⟨.inr (by omega), fun hi => ?_, by omega⟩
   rcases hi with hi | hi
   · have := H.heap.oldo_lt hi; omega
   · exact e2 hi.2
 · exact H.step.trans hst (fun _ _ hf => hf.elim) (fun _ hf => hf.elim)
 · intro n u hu b i hf
   by_cases e : n = h
   · subst e
     simp at hu; subst hu
     simp [hset] at hf
     have := (hfp b i hf).1
     have := H.step.size
     exact .inr (by omega)
   · simp [e] at hu
     simp [hset, e] at hf
     exact H.own n u hu b i hf
 · intro n u hu b hf
   by_cases e : n = h
   · subst e
     simp at hu; subst hu
     simp [hset] at hf
     have := (hfpo b hf).1
     have := H.step.size
     exact .inr (by omega)
   · simp [e] at hu
     simp [hset, e] at hf
     exact H.owno n u hu b hf
 · exact fun g t x hx => (H.glob g t x hx).mono hst.le
theorem HInv.write {C : Ctx} {hp : Nat → HObj} {β : Asg} {G G' : GW} (H : HInv C hp β G) (h : Nat) (v : Value) (ob : HObj) (hv : β h = some v) (hob : ob ≠ .none)
    (him : G'.im = G.im) (himo : G'.imo = G.imo) (hs : Step (fpc (hp h) v) (fpo (hp h) v) G G') (hsat : satH ob v β G')
    (hfp : ∀ b i, fpc ob v b i → fpc (hp h) v b i) (hfpo : ∀ b, fpo ob v b → fpo (hp h) v b) : HInv C (hset hp [(h, ob)]) β G' := by
 refine ⟨H.heap.gen (fun n => n = h) hs (Asg.le_refl β) (fun n hne => ⟨by simp [hset, hne], rfl⟩) (fun b o hf => ⟨h, v, rfl, hv, hf⟩) (fun b hf => ⟨h, v, rfl, hv, hf⟩)
     (fun n e hno => (by subst e; simp [hset] at hno; exact (hob hno).elim)) (fun n e _ => (by subst e; exact ⟨v, hv, by simpa [hset] using hsat⟩)) ?_ ?_
     (fun n n' _ _ e e' hne => (hne (e.trans e'.symm)).elim) (fun n n' _ _ e e' hne => (hne (e.trans e'.symm)).elim) ?_ ?_, ?_, ?_, ?_, ?_⟩
 · intro n u e hu b i hf
   subst e
   rw [hv] at hu; cases hu
   simp [hset] at hf
   have h1 := hfp b i hf
   have h2 := H.heap.im n v hv b i h1
   exact ⟨.inl ⟨n, v, rfl, hv, h1⟩, by rw [him]; exact h2.1, Nat.lt_of_lt_of_le h2.2 hs.size⟩
 · intro n u e hu b hf
   subst e
   rw [hv] at hu; cases hu
   simp [hset] at hf
   have h1 := hfpo b hf
   have h2 := H.heap.imo n v hv b h1
   exact ⟨.inl ⟨n, v, rfl, hv, h1⟩, by rw [himo]; exact h2.1, Nat.lt_of_lt_of_le h2.2 hs.size⟩
 · intro b i hi; rw [him] at hi; exact Nat.lt_of_lt_of_le (H.heap.old b i hi) hs.size
 · intro b hi; rw [himo] at hi; obtain ⟨o, e, e'⟩ := H.heap.oldo b hi; exact ⟨o, (hs.le.2 b hi).2.trans e, e'⟩
 · exact H.step.trans hs (fun b o hf => H.own h v hv b o hf) (fun b hf => H.owno h v hv b hf)
 · intro n u hu b i hf
   by_cases e : n = h
   · subst e
     rw [hv] at hu; cases hu
     simp [hset] at hf
     exact H.own n v hv b i (hfp b i hf)
   · simp [hset, e] at hf
     exact H.own n u hu b i hf
 · intro n u hu b hf
   by_cases e : n = h
   · subst e
     rw [hv] at hu; cases hu
     simp [hset] at hf
     exact H.owno n v hv b (hfpo b hf)
   · simp [hset, e] at hf
     exact H.owno n u hu b hf
 · exact fun g t x hx => (H.glob g t x hx).mono hs.le
theorem HInv.move {C : Ctx} {hp : Nat → HObj} {β : Asg} {G G' : GW} (H : HInv C hp β G) (h h' : Nat) (v v' : Value) (ob : HObj) (hv : β h = some v) (hn : hp h' = .none) (hob : ob ≠ .none)
    (hs : Step (fpc (hp h) v) (fpo (hp h) v) G G') (hsat : satH ob v' (fun n => if n = h' then some v' else β n) G')
    (hfp : ∀ b i, fpc ob v' b i → (fpc (hp h) v b i ∨ G.w.heap.size ≤ b) ∧ ¬ G'.im b i ∧ b < G'.w.heap.size) (hfpo : ∀ b, fpo ob v' b → (fpo (hp h) v b ∨ G.w.heap.size ≤ b) ∧ ¬ G'.imo b ∧ b < G'.w.heap.size)
    (hold : ∀ b o, G'.im b o → b < G'.w.heap.size) (holdo : ∀ b, G'.imo b → ∃ o, G'.w.heap[b]? = some o ∧ ImObj o) :
    HInv C (hset hp [(h', ob), (h, .dead)]) (fun n => if n = h' then some v' else β n) G' ∧ β.le (fun n => if n = h' then some v' else β n) := by
 have hβ : β h' = none := H.heap.no h' hn
 have hne : h ≠ h' := fun e => by rw [e, hβ] at hv; cases hv
 have hne' : h' ≠ h := fun e => hne e.symm
 have hle : β.le (fun n => if n = h' then some v' else β n) := fun n u e => by
  by_cases hnh : n = h'
  · subst hnh; rw [hβ] at e; cases e
  · simp [hnh, e]
 have hF0 : ∀ b o, fpc (hp h) v b o → C.F0 b o ∨ C.G0.w.heap.size ≤ b := fun b o hf => H.own h v hv b o hf
 have hFo0 : ∀ b, fpo (hp h) v b → C.Fo0 b ∨ C.G0.w.heap.size ≤ b := fun b hf => H.owno h v hv b hf
 refine ⟨⟨H.heap.gen (fun n => n = h' ∨ n = h) hs hle (fun n hk => ?_) (fun b o hf => ⟨h, v, .inr rfl, hv, hf⟩) (fun b hf => ⟨h, v, .inr rfl, hv, hf⟩) ?_ ?_ ?_ ?_ ?_ ?_ hold holdo, ?_, ?_, ?_, ?_⟩, hle⟩
 · have h1 : ¬ n = h' := fun e => hk (.inl e)
   have h2 : ¬ n = h := fun e => hk (.inr e)
   exact ⟨by simp [hset, h1, h2], by simp [h1]⟩
 · rintro n (rfl | rfl) hno
   · simp [hset] at hno; exact (hob hno).elim
   · simp [hset, hne] at hno
 · rintro n (rfl | rfl) _
   · exact ⟨v', by simp, by simpa [hset] using hsat⟩
   · exact ⟨v, by simp [hne, hv], by simp [hset, hne, satH]⟩
 · rintro n u (rfl | rfl) hu b i hf
   · simp at hu; subst hu
     simp [hset] at hf
     obtain ⟨h1, h2, h3⟩ := hfp b i hf
     exact ⟨h1.elim (fun h1 => .inl ⟨h, v, .inr rfl, hv, h1⟩) .inr, h2, h3⟩
   · simp [hset, hne, fpc] at hf
 · rintro n u (rfl | rfl) hu b hf
   · simp at hu; subst hu
     simp [hset] at hf
     obtain ⟨h1, h2, h3⟩ := hfpo b hf
     exact ⟨h1.elim (fun h1 => .inl ⟨h, v, .inr rfl, hv, h1⟩) .inr, h2, h3⟩
   · simp [hset, hne, fpo] at hf
 · rintro n n' u u' (rfl | rfl) (rfl | rfl) hnn hu hu' b o hf hf'
   · exact hnn rfl
   · simp [hset, hne, fpc] at hf'
   · simp [hset, hne, fpc] at hf
   · exact hnn rfl
 · rintro n n' u u' (rfl | rfl) (rfl | rfl) hnn hu hu' b hf hf'
   · exact hnn rfl
   · simp [hset, hne, fpo] at hf'
   · simp [hset, hne, fpo] at hf
   · exact hnn rfl
 · exact H.step.trans hs hF0 hFo0
 · intro n u hu b i hf
   by_cases e : n = h'
   · subst e
     simp at hu; subst hu
     simp [hset] at hf
     rcases (hfp b i hf).1 with h1 | h1
     · exact hF0 b i h1
     · exact .inr (Nat.le_trans H.step.size h1)
   · by_cases e2 : n = h
     · subst e2; simp [hset, hne, fpc] at hf
     · simp [e] at hu
       simp [hset, e, e2] at hf
       exact H.own n u hu b i hf
 · intro n u hu b hf
   by_cases e : n = h'
   · subst e
     simp at hu; subst hu
     simp [hset] at hf
     rcases (hfpo b hf).1 with h1 | h1
     · exact hFo0 b h1
     · exact .inr (Nat.le_trans H.step.size h1)
   · by_cases e2 : n = h
     · subst e2; simp [hset, hne, fpo] at hf
     · simp [e] at hu
       simp [hset, e, e2] at hf
       exact H.owno n u hu b hf
 · exact fun g t x hx => (H.glob g t x hx).mono hs.le
end Go.Gv

/- Types of the program against types of data; data taken apart into cells and put together again. -/
namespace Go.Gv
open Go
def lookN {α : Type} : List (Nat × α) → Nat → Option α
 | [], _ => none
 | (k, v) :: r, n => match Nat.beq k n with
  | true => some v
  | false => lookN r n
def zeroCells : Ty → List Value
 | .int k => [.int k 0]
 | .bool => [.bool false]
 | .str => [strV []]
 | .sl _ => [.slice none 0 0]
 | .nl => []
 | .cs t r => zeroCells t ++ zeroCells r
 | .st fs => zeroCells fs
 | .arr n t => (List.replicate n (zeroCells t)).flatten
 | .mp _ _ => [.map none]
 | .pt _ => [.pointer none]
 | .ot 0 => [.nilFunc]
 | .ot 1 => [.nilIface]
 | .ot _ => [.pointer none]
 | .fn => [.nilFunc]
 | .ni => [.nilIface]
 | .ifc _ _ _ => [.nilIface]
theorem zero_isI {r : Ty} (h : isI r = true) : zeroCells r = [.nilIface] := by cases r <;> first | rfl | (simp [isI] at h)
def veq : Value → Value → Bool
 | .bool a, .bool b => a == b
 | .int k a, .int k' b => decide (k = k') && decide (a = b)
 | .string s, .string t => decide (s.data.toList = t.data.toList)
 | .pointer none, .pointer none => true
 | .slice none 0 0, .slice none 0 0 => true
 | .map none, .map none => true
 | .nilFunc, .nilFunc => true
 | .nilIface, .nilIface => true
 | _, _ => false
theorem veq_eq {a b : Value} (h : veq a b = true) : a = b := by
 unfold veq at h
 split at h <;> try first | rfl | (cases h; done)
 · simp at h; rw [h]
 · simp at h; rw [h.1, h.2]
 · rename_i s t
   simp at h
   cases s; cases t
   simp at h
   rw [h]
def leq : List Value → List Value → Bool
 | [], [] => true
 | a :: l, b :: r => veq a b && leq l r
 | _, _ => false
theorem leq_eq : ∀ {a b : List Value}, leq a b = true → a = b
 | [], [], _ => rfl
 | a :: l, b :: r, h => by
  simp only [leq, Bool.and_eq_true] at h
  rw [veq_eq h.1, leq_eq h.2]
 | [], _ :: _, h => by simp [leq] at h
 | _ :: _, [], h => by simp [leq] at h
def tb (P : Program) (t : Ty) (T : TypeId) : Bool :=
 match P.info? T with
 | some i => i.size == t.size && t.size != 0 && Nat.ble i.bytes (64 * t.size) && (match i.zero with
  | some (.agg cs) => t.agg && leq cs.toList (zeroCells t)
  | some v => !t.agg && leq [v] (zeroCells t)
  | none => false)
 | none => false
mutual
def tym (P : Program) : Ty → TypeId → Bool
 | .int k, T => tb P (.int k) T && (match P.underlying T with | some (.int k') => decide (k' = k) | _ => false)
 | .bool, T => tb P .bool T && (match P.underlying T with | some .bool => true | _ => false)
 | .str, T => tb P .str T && (match P.underlying T with | some .string => true | _ => false)
 | .sl t, T => tb P (.sl t) T && (match P.underlying T with | some (.slice e) => tym P t e && t.size != 0 | _ => false)
 | .st fs, T => tb P (.st fs) T && (match P.underlying T with | some (.struct f) => tymF P fs f.toList 0 | _ => false)
 | .arr n t, T => tb P (.arr n t) T && (match P.underlying T with | some (.array m e) => decide (m = n) && tym P t e && t.size != 0 | _ => false)
 | .mp k v, T => tb P (.mp k v) T && (match P.underlying T with | some (.map a b) => tym P k a && tym P v b | _ => false)
 | .pt t, T => tb P (.pt t) T && (match P.underlying T with | some (.pointer e) => tym P t e && t.size != 0 | _ => false)
 | .ot k, T => tb P (.ot k) T && (match P.underlying T, k with | some (.func _ _ _), 0 => true | some (.interface _), 1 => true | some (.pointer _), (_ + 2) => true | _, _ => false)
 | .fn, T => tb P .fn T && (match P.underlying T with | some (.func _ _ _) => true | _ => false)
 | .ni, T => tb P .ni T && (match P.underlying T with | some (.interface _) => true | _ => false)
 | .ifc u t r, T => tb P (.ifc u t r) T && (match P.underlying T with | some (.interface _) => tym P t u && t.size != 0 && tym P r T && isI r | _ => false)
 | .nl, _ => false
 | .cs _ _, _ => false
def tymF (P : Program) : Ty → List Field → Nat → Bool
 | .nl, [], _ => true
 | .cs t r, f :: fs, off => f.offset == off && t.size != 0 && tym P t f.type && tymF P r fs (off + t.size)
 | _, _, _ => false
end
theorem tym_tb {P : Program} {t : Ty} {T : TypeId} (h : tym P t T = true) : tb P t T = true := by
 cases t <;> simp only [tym, Bool.and_eq_true] at h <;> first | exact h.1 | (cases h; done)
theorem tym_size {P : Program} {t : Ty} {T : TypeId} (h : tym P t T = true) (w : World) : (sizeOf T).run P w = .ok t.size w := by
 have h := tym_tb h
 unfold tb at h
 split at h
 · rename_i i hi
   simp only [Bool.and_eq_true, beq_iff_eq] at h
   simp [sizeOf, typeInfo, hi, h.1.1.1]
 · cases h
theorem tym_info {P : Program} {t : Ty} {T : TypeId} (h : tym P t T = true) : ∃ i, P.info? T = some i ∧ i.size = t.size ∧ i.bytes ≤ 64 * t.size := by
 have h := tym_tb h
 unfold tb at h
 split at h
 · rename_i i hi
   simp only [Bool.and_eq_true, beq_iff_eq] at h
   exact ⟨i, hi, h.1.1.1, Nat.le_of_ble_eq_true h.1.2⟩
 · cases h
theorem tym_pos {P : Program} {t : Ty} {T : TypeId} (h : tym P t T = true) : 0 < t.size := by
 have h := tym_tb h
 unfold tb at h
 split at h
 · simp only [Bool.and_eq_true, bne_iff_ne] at h
   have := h.1.1.2
   omega
 · cases h
theorem tym_zero {P : Program} {t : Ty} {T : TypeId} (h : tym P t T = true) (w : World) : ∃ z, (zeroValue T).run P w = .ok z w ∧ z.cells.toList = zeroCells t ∧ (t.agg = true ↔ ∃ c, z = .agg c) := by
 have h := tym_tb h
 unfold tb at h
 split at h
 · rename_i i hi
   simp only [Bool.and_eq_true] at h
   obtain ⟨_, h⟩ := h
   split at h
   · rename_i cs hz
     simp only [Bool.and_eq_true] at h
     exact ⟨.agg cs, by simp [zeroValue, typeInfo, hi, hz], leq_eq h.2, ⟨fun _ => ⟨_, rfl⟩, fun _ => h.1⟩⟩
   · rename_i v hna hz
     simp only [Bool.and_eq_true] at h
     have hc : ∀ c, v ≠ .agg c := fun c e => hna c e
     have : v.cells = #[v] := by cases v <;> first | rfl | exact ((hc _ rfl).elim)
     refine ⟨v, by simp [zeroValue, typeInfo, hi, hz], by rw [this]; exact leq_eq h.2, ⟨fun ha => by rw [ha] at h; simp at h, fun ⟨c, e⟩ => (hc c e).elim⟩⟩
   · cases h
 · cases h
theorem Rep.zero : ∀ (t : Ty) (G : GW), Rep t (dflt t) G (zeroCells t)
 | .int k, _ => ⟨rfl, by cases k <;> simp [IntKind.has, IntKind.min, IntKind.max, IntKind.signed, IntKind.bits, dflt]⟩
 | .bool, _ => by unfold Rep; rfl
 | .str, _ => ⟨rfl, Nat.zero_le _⟩
 | .sl _, _ => ⟨none, 0, rfl, Nat.le_refl _, Nat.zero_le _, fun _ => rfl, fun _ h => by cases h⟩
 | .nl, _ => by unfold Rep; rfl
 | .cs t r, G => ⟨_, _, rfl, Rep.zero t G, Rep.zero r G⟩
 | .st fs, G => by unfold Rep; exact Rep.zero fs G
 | .arr n t, G => by
  have hl : (zeroCells t).length = t.size := Rep.length t (Rep.zero t G)
  refine ⟨List.length_replicate, ?_, fun i x hx => ?_⟩
  · simp [zeroCells, hl]
  · have hi : i < n := by
     have := (List.getElem?_eq_some_iff.1 hx).1
     simpa [dflt] using this
    have hxe : x = dflt t := by
     have := (List.getElem?_eq_some_iff.1 hx).2
     simpa [dflt] using this.symm
    rw [hxe]
    have : (((zeroCells (.arr n t)).drop (i * t.size)).take t.size) = zeroCells t := by
     show (((List.replicate n (zeroCells t)).flatten.drop (i * t.size)).take t.size) = zeroCells t
     rw [← hl]
     have hd : ∀ (i n : Nat), i < n → (((List.replicate n (zeroCells t)).flatten.drop (i * (zeroCells t).length)).take (zeroCells t).length) = zeroCells t := by
      intro i
      induction i with
      | zero =>
       intro n hn
       obtain ⟨n, rfl⟩ : ∃ m, n = m + 1 := ⟨n - 1, by omega⟩
       simp [List.replicate_succ]
      | succ i ih =>
       intro n hn
       obtain ⟨n, rfl⟩ : ∃ m, n = m + 1 := ⟨n - 1, by omega⟩
       rw [List.replicate_succ, List.flatten_cons, Nat.succ_mul, Nat.add_comm, ← List.drop_drop]
       simp only [List.drop_left]
       exact ih n (by omega)
     exact hd i n hi
    rw [this]
    exact Rep.zero t G
 | .mp _ _, _ => ⟨none, rfl, fun _ => rfl, fun _ h => by cases h⟩
 | .pt _, _ => by unfold Rep dflt; rfl
 | .ot 0, _ => ⟨_, rfl, rfl⟩
 | .ot 1, _ => ⟨_, rfl, rfl⟩
 | .ot (_ + 2), _ => ⟨_, rfl, rfl⟩
 | .fn, _ => by unfold Rep dflt; rfl
 | .ni, _ => by unfold Rep; rfl
 | .ifc _ _ r, G => ⟨⟨_, rfl, rfl⟩, fun h => (by have := Rep.zero r G; rw [zero_isI h] at this; exact this), fun _ => rfl⟩
theorem isAgg_run {P : Program} {t : Ty} {T : TypeId} (h : tym P t T = true) (w : World) : (isAgg T).run P w = .ok t.agg w := by
 cases t <;> simp only [tym, Bool.and_eq_true] at h <;> try (cases h; done)
 all_goals
  obtain ⟨_, h⟩ := h
  split at h <;> first | (cases h; done) | skip
 all_goals first
  | (rename_i hu; simp [isAgg, underlying, hu, Ty.agg]; done)
  | (rename_i hu _; simp [isAgg, underlying, hu, Ty.agg]; done)
  | (rename_i hu _ _; simp [isAgg, underlying, hu, Ty.agg]; done)
theorem und_sl {P : Program} {t : Ty} {T : TypeId} (h : tym P (.sl t) T = true) : ∃ e, P.underlying T = some (.slice e) ∧ tym P t e = true ∧ t.size ≠ 0 := by
 simp only [tym, Bool.and_eq_true] at h
 obtain ⟨_, h⟩ := h
 split at h
 · rename_i e hu; simp only [Bool.and_eq_true, bne_iff_ne] at h; exact ⟨e, hu, h⟩
 · cases h
theorem und_st {P : Program} {fs : Ty} {T : TypeId} (h : tym P (.st fs) T = true) : ∃ f, P.underlying T = some (.struct f) ∧ tymF P fs f.toList 0 = true := by
 simp only [tym, Bool.and_eq_true] at h
 obtain ⟨_, h⟩ := h
 split at h
 · rename_i f hu; exact ⟨f, hu, h⟩
 · cases h
theorem und_int {P : Program} {k : IntKind} {T : TypeId} (h : tym P (.int k) T = true) : P.underlying T = some (.int k) := by
 simp only [tym, Bool.and_eq_true] at h
 obtain ⟨_, h⟩ := h
 split at h
 · rename_i k' hu; simp at h; rw [hu, h]
 · cases h
theorem und_str {P : Program} {T : TypeId} (h : tym P .str T = true) : P.underlying T = some .string := by
 simp only [tym, Bool.and_eq_true] at h
 obtain ⟨_, h⟩ := h
 split at h
 · rename_i hu; exact hu
 · cases h
theorem und_bool {P : Program} {T : TypeId} (h : tym P .bool T = true) : P.underlying T = some .bool := by
 simp only [tym, Bool.and_eq_true] at h
 obtain ⟨_, h⟩ := h
 split at h
 · rename_i hu; exact hu
 · cases h
theorem und_pt {P : Program} {t : Ty} {T : TypeId} (h : tym P (.pt t) T = true) : ∃ e, P.underlying T = some (.pointer e) ∧ tym P t e = true ∧ t.size ≠ 0 := by
 simp only [tym, Bool.and_eq_true] at h
 obtain ⟨_, h⟩ := h
 split at h
 · rename_i e hu; simp only [Bool.and_eq_true, bne_iff_ne] at h; exact ⟨e, hu, h⟩
 · cases h
theorem und_fn {P : Program} {T : TypeId} (h : tym P .fn T = true) : ∃ a b c, P.underlying T = some (.func a b c) := by
 simp only [tym, Bool.and_eq_true] at h
 obtain ⟨_, h⟩ := h
 split at h
 · exact ⟨_, _, _, by assumption⟩
 · cases h
theorem und_ot2 {P : Program} {k : Nat} {T : TypeId} (h : tym P (.ot (k + 2)) T = true) : ∃ e, P.underlying T = some (.pointer e) := by
 simp only [tym, Bool.and_eq_true] at h
 obtain ⟨_, h⟩ := h
 split at h
 · rename_i hk; omega
 · rename_i hk; omega
 · exact ⟨_, by assumption⟩
 · cases h
theorem und_arr {P : Program} {n : Nat} {t : Ty} {T : TypeId} (h : tym P (.arr n t) T = true) : ∃ e, P.underlying T = some (.array n e) ∧ tym P t e = true ∧ t.size ≠ 0 := by
 simp only [tym, Bool.and_eq_true] at h
 obtain ⟨_, h⟩ := h
 split at h
 · rename_i m e hu; simp only [Bool.and_eq_true, decide_eq_true_eq, bne_iff_ne] at h; obtain ⟨⟨rfl, h1⟩, h2⟩ := h; exact ⟨e, hu, h1, h2⟩
 · cases h
theorem und_mp {P : Program} {k v : Ty} {T : TypeId} (h : tym P (.mp k v) T = true) : ∃ a b, P.underlying T = some (.map a b) ∧ tym P k a = true ∧ tym P v b = true := by
 simp only [tym, Bool.and_eq_true] at h
 obtain ⟨_, h⟩ := h
 split at h
 · rename_i a b hu; simp only [Bool.and_eq_true] at h; exact ⟨a, b, hu, h⟩
 · cases h
def offOf : Ty → Nat → Option (Nat × Ty)
 | .cs t _, 0 => some (0, t)
 | .cs t r, f + 1 => match offOf r f with
  | some (o, u) => some (t.size + o, u)
  | none => none
 | _, _ => none
def fieldOf : (t : Ty) → Dat t → Nat → Option ((t : Ty) × Dat t)
 | .cs t _, x, 0 => some ⟨t, x.1⟩
 | .cs _ r, x, f + 1 => fieldOf r x.2 f
 | _, _, _ => none
theorem tymF_off {P : Program} : ∀ (fs : Ty) (l : List Field) (o f p : Nat) (u : Ty), tymF P fs l o = true → offOf fs f = some (p, u) → ∃ fl, l[f]? = some fl ∧ fl.offset = o + p ∧ tym P u fl.type = true ∧ u.size ≠ 0
 | .cs t r, [], o, f, p, u, h, _ => by simp [tymF] at h
 | .cs t r, fl :: l, o, 0, p, u, h, h2 => by
  simp only [tymF, Bool.and_eq_true, beq_iff_eq, bne_iff_ne] at h
  simp only [offOf, Option.some.injEq, Prod.mk.injEq] at h2
  obtain ⟨rfl, rfl⟩ := h2
  exact ⟨fl, rfl, h.1.1.1, h.1.2, h.1.1.2⟩
 | .cs t r, fl :: l, o, f + 1, p, u, h, h2 => by
  simp only [tymF, Bool.and_eq_true] at h
  simp only [offOf] at h2
  split at h2
  · rename_i o' u' h3
    simp only [Option.some.injEq, Prod.mk.injEq] at h2
    obtain ⟨rfl, rfl⟩ := h2
    obtain ⟨fl', h4, h5, h6⟩ := tymF_off r l (o + t.size) f o' u' h.2 h3
    exact ⟨fl', h4, by omega, h6⟩
  · cases h2
 | .int _, _, _, _, _, _, _, h2 => by simp [offOf] at h2
 | .bool, _, _, _, _, _, _, h2 => by simp [offOf] at h2
 | .str, _, _, _, _, _, _, h2 => by simp [offOf] at h2
 | .sl _, _, _, _, _, _, _, h2 => by simp [offOf] at h2
 | .nl, _, _, _, _, _, _, h2 => by simp [offOf] at h2
 | .st _, _, _, _, _, _, _, h2 => by simp [offOf] at h2
 | .arr _ _, _, _, _, _, _, _, h2 => by simp [offOf] at h2
 | .mp _ _, _, _, _, _, _, _, h2 => by simp [offOf] at h2
 | .pt _, _, _, _, _, _, _, h2 => by simp [offOf] at h2
 | .ot _, _, _, _, _, _, _, h2 => by simp [offOf] at h2
 | .fn, _, _, _, _, _, _, h2 => by simp [offOf] at h2
 | .ni, _, _, _, _, _, _, h2 => by simp [offOf] at h2
 | .ifc _ _ _, _, _, _, _, _, _, h2 => by simp [offOf] at h2
theorem Rep_field {G : GW} : ∀ (fs : Ty) (x : Dat fs) (f : Nat) (u : Ty) (y : Dat u) (vs : List Value), Rep fs x G vs → fieldOf fs x f = some ⟨u, y⟩ →
    ∃ p, offOf fs f = some (p, u) ∧ p + u.size ≤ fs.size ∧ Rep u y G ((vs.drop p).take u.size)
 | .cs t r, x, 0, u, y, vs, h, h2 => by
  simp only [fieldOf, Option.some.injEq, Sigma.mk.injEq] at h2
  obtain ⟨rfl, h2⟩ := h2
  have := eq_of_heq h2; subst this
  obtain ⟨v1, v2, rfl, h3, h4⟩ := h
  refine ⟨0, rfl, by simp [Ty.size], ?_⟩
  rw [List.drop_zero, ← Rep.length t h3, List.take_left]
  exact h3
 | .cs t r, x, f + 1, u, y, vs, h, h2 => by
  simp only [fieldOf] at h2
  obtain ⟨v1, v2, rfl, h3, h4⟩ := h
  obtain ⟨p, h5, h6, h7⟩ := Rep_field r x.2 f u y v2 h4 h2
  refine ⟨t.size + p, by simp [offOf, h5], by simp only [Ty.size]; omega, ?_⟩
  have : (v1 ++ v2).drop (t.size + p) = v2.drop p := by
   rw [← Rep.length t h3, ← List.drop_drop, List.drop_left]
  rw [this]; exact h7
 | .int _, _, _, _, _, _, _, h2 => by simp [fieldOf] at h2
 | .bool, _, _, _, _, _, _, h2 => by simp [fieldOf] at h2
 | .str, _, _, _, _, _, _, h2 => by simp [fieldOf] at h2
 | .sl _, _, _, _, _, _, _, h2 => by simp [fieldOf] at h2
 | .nl, _, _, _, _, _, _, h2 => by simp [fieldOf] at h2
 | .st _, _, _, _, _, _, _, h2 => by simp [fieldOf] at h2
 | .arr _ _, _, _, _, _, _, _, h2 => by simp [fieldOf] at h2
 | .mp _ _, _, _, _, _, _, _, h2 => by simp [fieldOf] at h2
 | .pt _, _, _, _, _, _, _, h2 => by simp [fieldOf] at h2
 | .ot _, _, _, _, _, _, _, h2 => by simp [fieldOf] at h2
 | .fn, _, _, _, _, _, _, h2 => by simp [fieldOf] at h2
 | .ni, _, _, _, _, _, _, h2 => by simp [fieldOf] at h2
 | .ifc _ _ _, _, _, _, _, _, _, h2 => by simp [fieldOf] at h2
end Go.Gv

/- Abstract values turned into data, data into abstract cells, and lists of abstract cells. -/
namespace Go.Gv
open Go
def castDat (u t : Ty) (x : Dat u) : Option (Dat t) := if h : u = t then h ▸ some x else none
theorem castDat_rep {u t : Ty} {x : Dat u} {y : Dat t} {G : GW} {v : Value} (h : castDat u t x = some y) (hr : RepV u x G v) : RepV t y G v := by
 unfold castDat at h
 split at h
 · rename_i e; subst e; simp only [Option.some.injEq] at h; subst h; exact hr
 · cases h
theorem castDat_rep' {u t : Ty} {x : Dat u} {y : Dat t} {G : GW} {vs : List Value} (h : castDat u t x = some y) (hr : Rep u x G vs) : Rep t y G vs := by
 unfold castDat at h
 split at h
 · rename_i e; subst e; simp only [Option.some.injEq] at h; subst h; exact hr
 · cases h
def wideI : (t : Ty) → Nat → (s : Ty) → Dat s → Option (Dat t)
 | .ifc u t r, n, s, z => if u = n then (castDat s t z).map .inl else (wideI r n s z).map .inr
 | _, _, _, _ => none
theorem wideI_isI : ∀ {t : Ty} {n : Nat} {s : Ty} {z : Dat s} {y : Dat t}, wideI t n s z = some y → isI t = true
 | .ifc _ _ _, _, _, _, _, _ => rfl
 | .int _, _, _, _, _, h => by cases h
 | .bool, _, _, _, _, h => by cases h
 | .str, _, _, _, _, h => by cases h
 | .sl _, _, _, _, _, h => by cases h
 | .nl, _, _, _, _, h => by cases h
 | .cs _ _, _, _, _, _, h => by cases h
 | .st _, _, _, _, _, h => by cases h
 | .arr _ _, _, _, _, _, h => by cases h
 | .mp _ _, _, _, _, _, h => by cases h
 | .pt _, _, _, _, _, h => by cases h
 | .ot _, _, _, _, _, h => by cases h
 | .fn, _, _, _, _, h => by cases h
 | .ni, _, _, _, _, h => by cases h
theorem wideI_rep {G : GW} : ∀ (t : Ty) {n : Nat} {s : Ty} {z : Dat s} {y : Dat t} {v : Value}, wideI t n s z = some y → RepV s z G v → Rep t y G [.iface n v]
 | .ifc u t r, n, s, z, y, v, h, hr => by
  unfold wideI at h
  split at h
  · rename_i e
    subst e
    cases hc : castDat s t z with
    | none => rw [hc] at h; cases h
    | some x =>
     rw [hc] at h
     simp only [Option.map_some, Option.some.injEq] at h
     subst h
     have := castDat_rep hc hr
     exact ⟨v, rfl, this.1, this.2⟩
  · cases hc : wideI r n s z with
    | none => rw [hc] at h; cases h
    | some x =>
     rw [hc] at h
     simp only [Option.map_some, Option.some.injEq] at h
     subst h
     refine ⟨⟨_, rfl, by simp [Value.oneCell']⟩, fun _ => wideI_rep r hc hr, fun q => ?_⟩
     rw [wideI_isI hc] at q; cases q
 | .int _, _, _, _, _, _, h, _ => by cases h
 | .bool, _, _, _, _, _, h, _ => by cases h
 | .str, _, _, _, _, _, h, _ => by cases h
 | .sl _, _, _, _, _, _, h, _ => by cases h
 | .nl, _, _, _, _, _, h, _ => by cases h
 | .cs _ _, _, _, _, _, _, h, _ => by cases h
 | .st _, _, _, _, _, _, h, _ => by cases h
 | .arr _ _, _, _, _, _, _, h, _ => by cases h
 | .mp _ _, _, _, _, _, _, h, _ => by cases h
 | .pt _, _, _, _, _, _, h, _ => by cases h
 | .ot _, _, _, _, _, _, h, _ => by cases h
 | .fn, _, _, _, _, _, h, _ => by cases h
 | .ni, _, _, _, _, _, h, _ => by cases h
def castI (s : Ty) (n : Nat) (t : Ty) (x : Dat (.ifc n s .ni)) : Option (Dat t) := match castDat (.ifc n s .ni) t x with
 | some y => some y
 | none => match x with
  | .inl z => wideI t n s z
  | .inr _ => none
theorem castI_rep {s t : Ty} {n : Nat} {x : Dat (.ifc n s .ni)} {y : Dat t} {G : GW} {v : Value} (h : castI s n t x = some y) (hr : RepV (.ifc n s .ni) x G v) : RepV t y G v := by
 unfold castI at h
 split at h
 · rename_i hc
   simp only [Option.some.injEq] at h
   subst h
   exact castDat_rep hc hr
 · split at h
   · obtain ⟨w, e, ha, hw⟩ := hr.to_one rfl
     simp only [List.cons.injEq, and_true] at e
     subst e
     have hi := wideI_isI h
     exact .of_one (by cases t <;> first | rfl | (simp [isI] at hi)) (wideI_rep t h ⟨ha, hw⟩)
   · cases h
noncomputable def boolOf (p : Prop) : Bool := @decide p (Classical.propDecidable p)
theorem boolOf_true {p : Prop} : boolOf p = true ↔ p := by unfold boolOf; exact @decide_eq_true_iff p (Classical.propDecidable p)
theorem boolOf_false {p : Prop} : boolOf p = false ↔ ¬ p := by unfold boolOf; exact @decide_eq_false_iff_not p (Classical.propDecidable p)
@[simp] theorem boolOf_eq (p : Prop) [inst : Decidable p] : boolOf p = decide p := by unfold boolOf; congr
noncomputable def toDat1 (hp : Nat → HObj) : (t : Ty) → AP → Option (Dat t)
 | t, .dat (.ifc n s .ni) x => castI s n t x
 | t, .dat u x => castDat u t x
 | .bool, .blit b => some b
 | .bool, .dec p => some (boolOf p)
 | .sl t, .sl _ u xs => castDat (.sl u) (.sl t) xs
 | .sl _, .val (.slice none 0 0) => some []
 | .mp _ _, .val (.map none) => some []
 | .pt _, .val (.pointer none) => some none
 | .pt t, .ptr u x => (castDat u t x).map some
 | .sl t, .ref h => match hp h with
  | .frz u xs => castDat (.sl u) (.sl t) xs
  | _ => none
 | .ot _, .ptr _ _ => some ()
 | .ot _, .loc _ _ => some ()
 | .ot _, .clos _ _ => some ()
 | .ot _, .val .nilFunc => some ()
 | .ot _, .val .nilIface => some ()
 | .ot _, .val (.pointer none) => some ()
 | .fn, .clos f .nil => some (some f)
 | .fn, .val .nilFunc => some none
 | .ni, .val .nilIface => some ()
 | .ifc u t r, .val .nilIface => some (dflt (.ifc u t r))
 | _, _ => none
def HeapSat (hp : Nat → HObj) (β : Asg) (G : GW) : Prop := ∀ h, hp h ≠ .none → ∃ v, β h = some v ∧ satH (hp h) v β G
theorem toDat1_rep {hp : Nat → HObj} {β : Asg} {G : GW} (H : HeapSat hp β G) {t : Ty} {X : AP} {x : Dat t} {v : Value} (h : toDat1 hp t X = some x) (hs : sat X β G v) : RepV t x G v := by
 unfold toDat1 at h
 split at h
 · unfold sat at hs; exact castI_rep h hs
 · unfold sat at hs; exact castDat_rep h hs
 · unfold sat at hs; subst hs; simp only [Option.some.injEq] at h; subst h; exact .of_one rfl (by unfold Rep; rfl)
 · unfold sat at hs
   simp only [Option.some.injEq] at h; subst h
   refine .of_one rfl ?_
   unfold Rep
   rename_i p
   by_cases hp' : p
   · rw [hs.1 hp', boolOf_true.2 hp']
   · rw [hs.2 hp', boolOf_false.2 hp']
 · unfold sat at hs; exact castDat_rep h hs.2
 · unfold sat at hs; subst hs; simp only [Option.some.injEq] at h; subst h
   exact .of_one rfl ⟨none, 0, rfl, Nat.le_refl _, Nat.zero_le _, fun _ => rfl, fun _ h => by cases h⟩
 · unfold sat at hs; subst hs; simp only [Option.some.injEq] at h; subst h
   exact .of_one rfl ⟨none, rfl, fun _ => rfl, fun _ h => by cases h⟩
 · unfold sat at hs; subst hs; simp only [Option.some.injEq] at h; subst h
   exact .of_one rfl (by unfold Rep; rfl)
 · unfold sat at hs
   rw [Option.map_eq_some_iff] at h
   obtain ⟨y, h, rfl⟩ := h
   obtain ⟨b, o, cells, rfl, hc, hr⟩ := hs
   exact .of_one rfl ⟨b, o, cells, rfl, hc, castDat_rep' h hr⟩
 · split at h
   · rename_i hh
     unfold sat at hs
     obtain ⟨u, hu, hsat⟩ := H _ (by rw [hh]; simp)
     rw [hs.1] at hu; cases hu
     rw [hh] at hsat
     exact castDat_rep h hsat
   · cases h
 · unfold sat at hs; obtain ⟨_, _, _, rfl, _⟩ := hs; exact .of_one rfl ⟨_, rfl, rfl⟩
 · unfold sat at hs; obtain ⟨_, _, rfl⟩ := hs; exact .of_one rfl ⟨_, rfl, rfl⟩
 · unfold sat at hs; obtain ⟨_, rfl, _⟩ := hs; exact .of_one rfl ⟨_, rfl, rfl⟩
 · unfold sat at hs; subst hs; exact .of_one rfl ⟨_, rfl, rfl⟩
 · unfold sat at hs; subst hs; exact .of_one rfl ⟨_, rfl, rfl⟩
 · unfold sat at hs; subst hs; exact .of_one rfl ⟨_, rfl, rfl⟩
 · unfold sat at hs; obtain ⟨l, rfl, hl⟩ := hs; unfold satT at hl; subst hl; simp only [Option.some.injEq] at h; subst h; exact .of_one rfl (by unfold Rep; rfl)
 · unfold sat at hs; subst hs; simp only [Option.some.injEq] at h; subst h; exact .of_one rfl (by unfold Rep; rfl)
 · unfold sat at hs; subst hs; exact .of_one rfl (Rep.zero .ni G)
 · unfold sat at hs; subst hs; simp only [Option.some.injEq] at h; subst h; exact .of_one rfl (Rep.zero (.ifc _ _ _) G)
 · cases h
noncomputable def unflatN {α : Type} (f : AP → Option (α × AP)) : Nat → AP → Option (List α × AP)
 | 0, cs => some ([], cs)
 | n + 1, cs => match f cs with
  | some (x, c1) => match unflatN f n c1 with
   | some (xs, c2) => some (x :: xs, c2)
   | none => none
  | none => none
noncomputable def unflat1 (hp : Nat → HObj) (t : Ty) : AP → Option (Dat t × AP)
 | .cons X r => match toDat1 hp t X with
  | some x => some (x, r)
  | none => none
 | _ => none
noncomputable def unflat (hp : Nat → HObj) : (t : Ty) → AP → Option (Dat t × AP)
 | .nl, cs => some ((), cs)
 | .cs t r, cs => match unflat hp t cs with
  | some (x, c1) => match unflat hp r c1 with
   | some (y, c2) => some ((x, y), c2)
   | none => none
  | none => none
 | .st fs, cs => unflat hp fs cs
 | .arr n t, cs => unflatN (unflat hp t) n cs
 | .int k, cs => unflat1 hp (.int k) cs
 | .bool, cs => unflat1 hp .bool cs
 | .str, cs => unflat1 hp .str cs
 | .sl t, cs => unflat1 hp (.sl t) cs
 | .mp k v, cs => unflat1 hp (.mp k v) cs
 | .pt t, cs => unflat1 hp (.pt t) cs
 | .ot k, cs => unflat1 hp (.ot k) cs
 | .fn, cs => unflat1 hp .fn cs
 | .ni, cs => unflat1 hp .ni cs
 | .ifc u t r, cs => unflat1 hp (.ifc u t r) cs
theorem satL_cons {h t : AP} {β : Asg} {G : GW} {l : List Value} : satL (.cons h t) β G l ↔ ∃ v l', l = v :: l' ∧ v.oneCell' = true ∧ sat h β G v ∧ satL t β G l' := by
 rw [satL]
theorem satL_nil {β : Asg} {G : GW} {l : List Value} : satL .nil β G l ↔ l = [] := by rw [satL]
theorem cells_one {v : Value} (h : v.oneCell' = true) : v.cells.toList = [v] := by cases v <;> first | rfl | (simp [Value.oneCell'] at h)
theorem unflat1_rep {hp : Nat → HObj} {β : Asg} {G : GW} (H : HeapSat hp β G) {t : Ty} (ha : t.agg = false) {cs r : AP} {x : Dat t} {l : List Value} (h : unflat1 hp t cs = some (x, r)) (hs : satL cs β G l) :
    ∃ l1 l2, l = l1 ++ l2 ∧ Rep t x G l1 ∧ satL r β G l2 := by
 unfold unflat1 at h
 split at h
 · rw [satL_cons] at hs
   obtain ⟨v, l', rfl, ho, h1, h2⟩ := hs
   split at h
   · rename_i y hy
     simp only [Option.some.injEq, Prod.mk.injEq] at h
     obtain ⟨rfl, rfl⟩ := h
     exact ⟨[v], l', rfl, (toDat1_rep H hy h1).to_one ha, h2⟩
   · cases h
 · cases h
theorem unflat_rep {hp : Nat → HObj} {β : Asg} {G : GW} (H : HeapSat hp β G) : ∀ (t : Ty) {cs r : AP} {x : Dat t} {l : List Value}, unflat hp t cs = some (x, r) → satL cs β G l →
    ∃ l1 l2, l = l1 ++ l2 ∧ Rep t x G l1 ∧ satL r β G l2
 | .nl, cs, r, x, l, h, hs => by
  simp only [unflat, Option.some.injEq, Prod.mk.injEq] at h
  obtain ⟨_, rfl⟩ := h
  exact ⟨[], l, rfl, by unfold Rep; rfl, hs⟩
 | .cs t u, cs, r, x, l, h, hs => by
  simp only [unflat] at h
  split at h
  · rename_i y c1 h1
    split at h
    · rename_i z c2 h2
      simp only [Option.some.injEq, Prod.mk.injEq] at h
      obtain ⟨rfl, rfl⟩ := h
      obtain ⟨l1, l2, rfl, r1, s1⟩ := unflat_rep H t h1 hs
      obtain ⟨l3, l4, rfl, r2, s2⟩ := unflat_rep H u h2 s1
      exact ⟨l1 ++ l3, l4, by simp, ⟨l1, l3, rfl, r1, r2⟩, s2⟩
    · cases h
  · cases h
 | .st fs, cs, r, x, l, h, hs => by
  simp only [unflat] at h
  obtain ⟨l1, l2, e, r1, s1⟩ := unflat_rep H fs h hs
  exact ⟨l1, l2, e, by unfold Rep; exact r1, s1⟩
 | .arr n t, cs, r, x, l, h, hs => by
  simp only [unflat] at h
  have key : ∀ (n : Nat) (cs r : AP) (xs : List (Dat t)) (l : List Value), unflatN (unflat hp t) n cs = some (xs, r) → satL cs β G l →
      ∃ l1 l2, l = l1 ++ l2 ∧ xs.length = n ∧ l1.length = n * t.size ∧ (∀ (i : Nat) (x : Dat t), xs[i]? = some x → Rep t x G ((l1.drop (i * t.size)).take t.size)) ∧ satL r β G l2 := by
   intro n
   induction n with
   | zero =>
    intro cs r xs l h hs
    simp only [unflatN, Option.some.injEq, Prod.mk.injEq] at h
    obtain ⟨rfl, rfl⟩ := h
    exact ⟨[], l, rfl, rfl, by simp, fun i x hx => by simp at hx, hs⟩
   | succ n ih =>
    intro cs r xs l h hs
    simp only [unflatN] at h
    split at h
    · rename_i y c1 h1
      split at h
      · rename_i ys c2 h2
        simp only [Option.some.injEq, Prod.mk.injEq] at h
        obtain ⟨rfl, rfl⟩ := h
        obtain ⟨l1, l2, rfl, r1, s1⟩ := unflat_rep H t h1 hs
        obtain ⟨l3, l4, rfl, e1, e2, r2, s2⟩ := ih c1 c2 ys l2 h2 s1
        have hl1 := Rep.length t r1
        refine ⟨l1 ++ l3, l4, by simp, by simp [e1], by simp [hl1, e2, Nat.succ_mul, Nat.add_comm], fun i x hx => ?_, s2⟩
        cases i with
        | zero =>
         simp only [List.getElem?_cons_zero, Option.some.injEq] at hx
         subst hx
         rw [Nat.zero_mul, List.drop_zero, ← hl1, List.take_left]
         exact r1
        | succ i =>
         simp only [List.getElem?_cons_succ] at hx
         have := r2 i x hx
         rw [Nat.succ_mul, Nat.add_comm, ← List.drop_drop]
         conv => arg 4; arg 2; arg 2; rw [← hl1]
         rw [List.drop_left]
         exact this
      · cases h
    · cases h
  obtain ⟨l1, l2, e, e1, e2, r1, s1⟩ := key n cs r x l h hs
  exact ⟨l1, l2, e, ⟨e1, e2, r1⟩, s1⟩
 | .int k, cs, r, x, l, h, hs => unflat1_rep H rfl (by simpa only [unflat] using h) hs
 | .bool, cs, r, x, l, h, hs => unflat1_rep H rfl (by simpa only [unflat] using h) hs
 | .str, cs, r, x, l, h, hs => unflat1_rep H rfl (by simpa only [unflat] using h) hs
 | .sl t, cs, r, x, l, h, hs => unflat1_rep H rfl (by simpa only [unflat] using h) hs
 | .mp k v, cs, r, x, l, h, hs => unflat1_rep H rfl (by simpa only [unflat] using h) hs
 | .pt t, cs, r, x, l, h, hs => unflat1_rep H rfl (by simpa only [unflat] using h) hs
 | .ot k, cs, r, x, l, h, hs => unflat1_rep H rfl (by simpa only [unflat] using h) hs
 | .fn, cs, r, x, l, h, hs => unflat1_rep H rfl (by simpa only [unflat] using h) hs
 | .ni, cs, r, x, l, h, hs => unflat1_rep H rfl (by simpa only [unflat] using h) hs
 | .ifc _ _ _, cs, r, x, l, h, hs => unflat1_rep H rfl (by simpa only [unflat] using h) hs
noncomputable def toDat (hp : Nat → HObj) (t : Ty) (X : AP) : Option (Dat t) :=
 match X with
 | .agg cs => match t with
  | .st fs => match unflat hp (.st fs) cs with
   | some (x, .nil) => some x
   | _ => none
  | .arr n u => match unflat hp (.arr n u) cs with
   | some (x, .nil) => some x
   | _ => none
  | _ => none
 | .loc h 0 => match t with
  | .pt u => match hp h with
   | .frzb cs => match unflat (fun _ => .none) u cs with
    | some (x, .nil) => some (some x)
    | _ => none
   | _ => none
  | t => toDat1 hp t (.loc h 0)
 | X => toDat1 hp t X
theorem toDat_rep {hp : Nat → HObj} {β : Asg} {G : GW} (H : HeapSat hp β G) {t : Ty} {X : AP} {x : Dat t} {v : Value} (h : toDat hp t X = some x) (hs : sat X β G v) : RepV t x G v := by
 unfold toDat at h
 split at h
 · unfold sat at hs
   obtain ⟨l, rfl, hl⟩ := hs
   split at h
   · split at h
     · rename_i x' h1
       simp only [Option.some.injEq] at h; subst h
       obtain ⟨l1, l2, rfl, r1, s1⟩ := unflat_rep H _ h1 hl
       rw [satL_nil] at s1; subst s1
       rw [List.append_nil]
       exact .of_agg rfl r1
     · cases h
   · split at h
     · rename_i x' h1
       simp only [Option.some.injEq] at h; subst h
       obtain ⟨l1, l2, rfl, r1, s1⟩ := unflat_rep H _ h1 hl
       rw [satL_nil] at s1; subst s1
       rw [List.append_nil]
       exact .of_agg rfl r1
     · cases h
   · cases h
 · split at h
   · split at h
     · rename_i hh
       split at h
       · rename_i x' h1
         simp only [Option.some.injEq] at h; subst h
         unfold sat at hs
         obtain ⟨b, hb, rfl⟩ := hs
         obtain ⟨v, hv, hsat⟩ := H _ (by rw [hh]; simp)
         rw [hb] at hv; cases hv
         rw [hh] at hsat
         obtain ⟨b', l, e, h2, h3⟩ := hsat
         cases e
         obtain ⟨l1, l2, rfl, r1, s1⟩ := unflat_rep (hp := fun _ => .none) (β := fun _ => none) (G := G) (fun h hn => (hn rfl).elim) _ h1 h2
         rw [satL_nil] at s1; subst s1
         rw [List.append_nil] at h3
         exact .of_one rfl ⟨_, _, l1, rfl, h3, r1⟩
       · cases h
     · cases h
   · exact toDat1_rep H h hs
 · exact toDat1_rep H h hs
def flatN {α : Type} (f : α → AP → AP) (d : α) (xs : List α) : Nat → Nat → AP → AP
 | 0, _, r => r
 | n + 1, i, r => f (xs.getD i d) (flatN f d xs n (i + 1) r)
def flatA : (t : Ty) → Dat t → AP → AP
 | .nl, _, r => r
 | .cs t u, x, r => flatA t x.1 (flatA u x.2 r)
 | .st fs, x, r => flatA fs x r
 | .arr n t, xs, r => flatN (flatA t) (dflt t) xs n 0 r
 | .int k, x, r => .cons (.dat (.int k) x) r
 | .bool, x, r => .cons (.dat .bool x) r
 | .str, x, r => .cons (.dat .str x) r
 | .sl t, x, r => .cons (.dat (.sl t) x) r
 | .mp k v, x, r => .cons (.dat (.mp k v) x) r
 | .pt t, x, r => .cons (.dat (.pt t) x) r
 | .ot k, x, r => .cons (.dat (.ot k) x) r
 | .fn, x, r => .cons (.dat .fn x) r
 | .ni, x, r => .cons (.dat .ni x) r
 | .ifc u t v, x, r => .cons (.dat (.ifc u t v) x) r
theorem one_of_len {l : List Value} (h : l.length = 1) : ∃ v, l = [v] := by
 match l, h with
 | [v], _ => exact ⟨v, rfl⟩
theorem flat1_sat {β : Asg} {G : GW} {t : Ty} (ha : t.agg = false) (hz : t.size = 1) {x : Dat t} {vs l : List Value} {r : AP} (h : Rep t x G vs) (hr : satL r β G l) : satL (.cons (.dat t x) r) β G (vs ++ l) := by
 obtain ⟨v, rfl⟩ := one_of_len ((Rep.length t h).trans hz)
 rw [satL_cons]
 exact ⟨v, l, rfl, Rep.one t h v (by simp), by unfold sat; exact .of_one ha h, hr⟩
theorem flatA_sat {β : Asg} {G : GW} : ∀ (t : Ty) {x : Dat t} {vs l : List Value} {r : AP}, Rep t x G vs → satL r β G l → satL (flatA t x r) β G (vs ++ l)
 | .nl, _, vs, _, _, h, hr => by unfold Rep at h; subst h; exact hr
 | .cs t u, _, _, _, _, ⟨v1, v2, e, h1, h2⟩, hr => by
  subst e
  rw [List.append_assoc]
  exact flatA_sat t h1 (flatA_sat u h2 hr)
 | .st fs, _, _, _, _, h, hr => by unfold Rep at h; exact flatA_sat fs h hr
 | .arr n t, xs, vs, l, r, ⟨e1, e2, h⟩, hr => by
  have key : ∀ (m i : Nat) (ws : List Value), i + m = n → ws = vs.drop (i * t.size) → satL (flatN (flatA t) (dflt t) xs m i r) β G (ws ++ l) := by
   intro m
   induction m with
   | zero =>
    intro i ws hi hw
    have : ws = [] := by rw [hw, List.drop_eq_nil_iff, e2]; simp at hi; subst hi; exact Nat.le_refl _
    subst this; exact hr
   | succ m ih =>
    intro i ws hi hw
    have hlt : i < List.length xs := by rw [e1]; omega
    have h1 := h i _ (List.getElem?_eq_getElem hlt)
    have e3 : ws = (vs.drop (i * t.size)).take t.size ++ vs.drop ((i + 1) * t.size) := by
     rw [hw, Nat.succ_mul, ← List.drop_drop, List.take_append_drop]
    have e4 : xs.getD i (dflt t) = xs[i] := by rw [List.getD_eq_getElem?_getD, List.getElem?_eq_getElem hlt]; rfl
    rw [e3, List.append_assoc]
    unfold flatN
    rw [e4]
    exact flatA_sat t h1 (ih (i + 1) _ (by omega) rfl)
  have := key n 0 vs (by omega) (by simp)
  exact this
 | .int _, _, _, _, _, h, hr => flat1_sat rfl rfl h hr
 | .bool, _, _, _, _, h, hr => flat1_sat rfl rfl h hr
 | .str, _, _, _, _, h, hr => flat1_sat rfl rfl h hr
 | .sl _, _, _, _, _, h, hr => flat1_sat rfl rfl h hr
 | .mp _ _, _, _, _, _, h, hr => flat1_sat rfl rfl h hr
 | .pt _, _, _, _, _, h, hr => flat1_sat rfl rfl h hr
 | .ot _, _, _, _, _, h, hr => flat1_sat rfl rfl h hr
 | .fn, _, _, _, _, h, hr => flat1_sat rfl rfl h hr
 | .ni, _, _, _, _, h, hr => flat1_sat rfl rfl h hr
 | .ifc _ _ _, _, _, _, _, h, hr => flat1_sat rfl rfl h hr
def repA (f : AP → AP) : Nat → AP → AP
 | 0, r => r
 | n + 1, r => f (repA f n r)
def zeroA : Ty → AP → AP
 | .int k, r => .cons (.dat (.int k) (0 : Int)) r
 | .bool, r => .cons (.blit false) r
 | .str, r => .cons (.dat .str ([] : List UInt8)) r
 | .sl _, r => .cons (.val (.slice none 0 0)) r
 | .nl, r => r
 | .cs t u, r => zeroA t (zeroA u r)
 | .st fs, r => zeroA fs r
 | .arr n t, r => repA (zeroA t) n r
 | .mp _ _, r => .cons (.val (.map none)) r
 | .pt _, r => .cons (.val (.pointer none)) r
 | .ot 0, r => .cons (.val .nilFunc) r
 | .ot 1, r => .cons (.val .nilIface) r
 | .ot _, r => .cons (.val (.pointer none)) r
 | .fn, r => .cons (.val .nilFunc) r
 | .ni, r => .cons (.val .nilIface) r
 | .ifc _ _ _, r => .cons (.val .nilIface) r
theorem val_cell {β : Asg} {G : GW} {v : Value} (hv : v.oneCell' = true) {r : AP} {l : List Value} (h : satL r β G l) : satL (.cons (.val v) r) β G (v :: l) := by
 rw [satL_cons]; exact ⟨v, l, rfl, hv, by unfold sat; rfl, h⟩
theorem zeroA_sat {β : Asg} {G : GW} : ∀ (t : Ty) {l : List Value} {r : AP}, satL r β G l → satL (zeroA t r) β G (zeroCells t ++ l)
 | .int k, l, r, h => by
  have := Rep.zero (.int k) G
  unfold zeroA
  rw [satL_cons]
  exact ⟨_, l, rfl, by simp [Value.oneCell'], by unfold sat; exact .of_one rfl this, h⟩
 | .bool, l, r, h => by
  unfold zeroA
  rw [satL_cons]
  exact ⟨_, l, rfl, by simp [Value.oneCell'], by unfold sat; rfl, h⟩
 | .str, l, r, h => by
  have := Rep.zero .str G
  unfold zeroA
  rw [satL_cons]
  exact ⟨_, l, rfl, by simp [Value.oneCell', strV], by unfold sat; exact .of_one rfl this, h⟩
 | .sl _, l, r, h => val_cell (by simp [Value.oneCell']) h
 | .nl, l, r, h => h
 | .cs t u, l, r, h => by
  show satL (zeroA t (zeroA u r)) β G ((zeroCells t ++ zeroCells u) ++ l)
  rw [List.append_assoc]
  exact zeroA_sat t (zeroA_sat u h)
 | .st fs, l, r, h => zeroA_sat fs h
 | .arr n t, l, r, h => by
  show satL (repA (zeroA t) n r) β G ((List.replicate n (zeroCells t)).flatten ++ l)
  induction n with
  | zero => exact h
  | succ n ih =>
   rw [List.replicate_succ, List.flatten_cons, List.append_assoc]
   exact zeroA_sat t ih
 | .mp _ _, l, r, h => val_cell (by simp [Value.oneCell']) h
 | .pt _, l, r, h => val_cell (by simp [Value.oneCell']) h
 | .ot 0, l, r, h => val_cell (by simp [Value.oneCell']) h
 | .ot 1, l, r, h => val_cell (by simp [Value.oneCell']) h
 | .ot (_ + 2), l, r, h => val_cell (by simp [Value.oneCell']) h
 | .fn, l, r, h => val_cell (by simp [Value.oneCell']) h
 | .ni, l, r, h => val_cell (by simp [Value.oneCell']) h
 | .ifc _ _ _, l, r, h => val_cell (by simp [Value.oneCell']) h
def dropA : Nat → AP → Option AP
 | 0, cs => some cs
 | n + 1, .cons _ r => dropA n r
 | _, _ => none
def takeA : Nat → AP → Option AP
 | 0, _ => some .nil
 | n + 1, .cons x r => match takeA n r with
  | some c => some (.cons x c)
  | none => none
 | _, _ => none
def overA : AP → AP → Option AP
 | .nil, r => some r
 | .cons y n, .cons _ r => match overA n r with
  | some c => some (.cons y c)
  | none => none
 | _, _ => none
def setA : Nat → AP → AP → Option AP
 | 0, n, cs => overA n cs
 | k + 1, n, .cons x r => match setA k n r with
  | some c => some (.cons x c)
  | none => none
 | _, _, _ => none
theorem dropA_sat {β : Asg} {G : GW} : ∀ (n : Nat) {cs c : AP} {l : List Value}, dropA n cs = some c → satL cs β G l → satL c β G (l.drop n) ∧ n ≤ l.length
 | 0, cs, c, l, h, hs => by simp only [dropA, Option.some.injEq] at h; subst h; exact ⟨by simpa using hs, Nat.zero_le _⟩
 | n + 1, .cons x r, c, l, h, hs => by
  simp only [dropA] at h
  rw [satL_cons] at hs
  obtain ⟨v, l', rfl, _, _, h2⟩ := hs
  have := dropA_sat n h h2
  exact ⟨by simpa using this.1, by simpa using this.2⟩
 | n + 1, .any, c, l, h, _ => by simp [dropA] at h
 | n + 1, .dat _ _, c, l, h, _ => by simp [dropA] at h
 | n + 1, .blit _, c, l, h, _ => by simp [dropA] at h
 | n + 1, .val _, c, l, h, _ => by simp [dropA] at h
 | n + 1, .agg _, c, l, h, _ => by simp [dropA] at h
 | n + 1, .nil, c, l, h, _ => by simp [dropA] at h
 | n + 1, .tup _, c, l, h, _ => by simp [dropA] at h
 | n + 1, .ptr _ _, c, l, h, _ => by simp [dropA] at h
 | n + 1, .ref _, c, l, h, _ => by simp [dropA] at h
 | n + 1, .loc _ _, c, l, h, _ => by simp [dropA] at h
 | n + 1, .rloc _ _ _ _, c, l, h, _ => by simp [dropA] at h
 | n + 1, .vw _ _ _, c, l, h, _ => by simp [dropA] at h
 | n + 1, .dec _, c, l, h, _ => by simp [dropA] at h
 | n + 1, .sl _ _ _, c, l, h, _ => by simp [dropA] at h
 | n + 1, .clos _ _, c, l, h, _ => by simp [dropA] at h
theorem takeA_sat {β : Asg} {G : GW} : ∀ (n : Nat) {cs c : AP} {l : List Value}, takeA n cs = some c → satL cs β G l → satL c β G (l.take n) ∧ n ≤ l.length := by
 intro n
 induction n with
 | zero => intro cs c l h hs; simp only [takeA, Option.some.injEq] at h; subst h; exact ⟨by rw [satL_nil]; simp, Nat.zero_le _⟩
 | succ n ih =>
  intro cs c l h hs
  cases cs <;> simp only [takeA] at h <;> try (cases h; done)
  rename_i x r
  rw [satL_cons] at hs
  obtain ⟨v, l', rfl, h0, h1, h2⟩ := hs
  split at h
  · rename_i c' hc
    simp only [Option.some.injEq] at h; subst h
    have := ih hc h2
    refine ⟨?_, by simpa using this.2⟩
    rw [satL_cons]
    exact ⟨v, _, by simp, h0, h1, this.1⟩
  · cases h
theorem overA_sat {β : Asg} {G : GW} : ∀ (n : AP) {cs c : AP} {l ln : List Value}, overA n cs = some c → satL cs β G l → satL n β G ln → satL c β G (ln ++ l.drop ln.length) ∧ ln.length ≤ l.length := by
 intro n
 induction n with
 | nil =>
  intro cs c l ln h hs hn
  rw [satL_nil] at hn; subst hn
  simp only [overA, Option.some.injEq] at h; subst h
  exact ⟨by simpa using hs, Nat.zero_le _⟩
 | cons y n _ ih =>
  intro cs c l ln h hs hn
  rw [satL_cons] at hn
  obtain ⟨u, ln', rfl, u0, u1, u2⟩ := hn
  cases cs <;> simp only [overA] at h <;> try (cases h; done)
  rename_i x r
  rw [satL_cons] at hs
  obtain ⟨v, l', rfl, h0, h1, h2⟩ := hs
  split at h
  · rename_i c' hc
    simp only [Option.some.injEq] at h; subst h
    have := ih hc h2 u2
    refine ⟨?_, by simpa using this.2⟩
    rw [satL_cons]
    exact ⟨u, _, by simp, u0, u1, this.1⟩
  · cases h
 | _ => intro cs c l ln h hs hn; unfold satL at hn; exact hn.elim
theorem setA_sat {β : Asg} {G : GW} : ∀ (k : Nat) {n cs c : AP} {l ln : List Value}, setA k n cs = some c → satL cs β G l → satL n β G ln → satL c β G (l.take k ++ ln ++ l.drop (k + ln.length)) ∧ k + ln.length ≤ l.length := by
 intro k
 induction k with
 | zero =>
  intro n cs c l ln h hs hn
  simp only [setA] at h
  have := overA_sat n h hs hn
  exact ⟨by simpa using this.1, by simpa using this.2⟩
 | succ k ih =>
  intro n cs c l ln h hs hn
  cases cs <;> simp only [setA] at h <;> try (cases h; done)
  rename_i x r
  rw [satL_cons] at hs
  obtain ⟨v, l', rfl, h0, h1, h2⟩ := hs
  split at h
  · rename_i c' hc
    simp only [Option.some.injEq] at h; subst h
    have := ih hc h2 hn
    refine ⟨?_, by have := this.2; simp; omega⟩
    rw [satL_cons]
    refine ⟨v, _, ?_, h0, h1, this.1⟩
    have e : k + 1 + ln.length = (k + ln.length) + 1 := by omega
    rw [e]
    simp
  · cases h
def cellsA : AP → Option AP
 | .dat t x => some (flatA t x .nil)
 | .agg cs => some cs
 | .blit b => some (.cons (.blit b) .nil)
 | .dec p => some (.cons (.dec p) .nil)
 | .val v => match v.oneCell' with
  | true => some (.cons (.val v) .nil)
  | false => none
 | .ptr t x => some (.cons (.ptr t x) .nil)
 | .ref h => some (.cons (.ref h) .nil)
 | .loc h o => some (.cons (.loc h o) .nil)
 | .rloc h i s o => some (.cons (.rloc h i s o) .nil)
 | .sl h t xs => some (.cons (.sl h t xs) .nil)
 | .clos f c => some (.cons (.clos f c) .nil)
 | _ => none
theorem cells1_sat {X : AP} {β : Asg} {G : GW} {v : Value} (ho : v.oneCell' = true) (h : sat X β G v) : satL (.cons X .nil) β G v.cells.toList := by
 rw [cells_one ho, satL_cons]
 exact ⟨v, [], rfl, ho, h, by rw [satL_nil]⟩
theorem cellsA_sat {X cs : AP} {β : Asg} {G : GW} {v : Value} (h : cellsA X = some cs) (hs : sat X β G v) : satL cs β G v.cells.toList := by
 unfold cellsA at h
 split at h
 · simp only [Option.some.injEq] at h; subst h
   unfold sat at hs
   have := flatA_sat (β := β) (l := []) (r := .nil) _ hs.2 (by rw [satL_nil])
   rwa [List.append_nil] at this
 · simp only [Option.some.injEq] at h; subst h
   unfold sat at hs
   obtain ⟨l, rfl, hl⟩ := hs
   simpa [Value.cells] using hl
 · simp only [Option.some.injEq] at h; subst h
   refine cells1_sat ?_ hs
   unfold sat at hs; subst hs; rfl
 · simp only [Option.some.injEq] at h; subst h
   refine cells1_sat ?_ hs
   unfold sat at hs
   rename_i p
   by_cases hp : p
   · rw [hs.1 hp]; rfl
   · rw [hs.2 hp]; rfl
 · split at h
   · rename_i ho
     simp only [Option.some.injEq] at h; subst h
     refine cells1_sat ?_ hs
     unfold sat at hs; subst hs; exact ho
   · cases h
 · simp only [Option.some.injEq] at h; subst h
   refine cells1_sat ?_ hs
   unfold sat at hs; obtain ⟨_, _, _, rfl, _⟩ := hs; rfl
 · simp only [Option.some.injEq] at h; subst h
   refine cells1_sat ?_ hs
   unfold sat at hs; exact hs.2
 · simp only [Option.some.injEq] at h; subst h
   refine cells1_sat ?_ hs
   unfold sat at hs; obtain ⟨_, _, rfl⟩ := hs; rfl
 · simp only [Option.some.injEq] at h; subst h
   refine cells1_sat ?_ hs
   unfold sat at hs; obtain ⟨_, _, _, _, _, rfl⟩ := hs; rfl
 · simp only [Option.some.injEq] at h; subst h
   refine cells1_sat ?_ hs
   unfold sat at hs; exact Rep.one _ (hs.2.to_one rfl) v (by simp)
 · simp only [Option.some.injEq] at h; subst h
   refine cells1_sat ?_ hs
   unfold sat at hs; obtain ⟨_, rfl, _⟩ := hs; rfl
 · cases h
theorem satL_one {β : Asg} {G : GW} : ∀ (cs : AP) {l : List Value}, satL cs β G l → ∀ v ∈ l, v.oneCell' = true := by
 intro cs
 induction cs with
 | nil => intro l h v hv; rw [satL_nil] at h; subst h; cases hv
 | cons x r _ ih =>
  intro l h v hv
  rw [satL_cons] at h
  obtain ⟨u, l', rfl, h0, _, h2⟩ := h
  cases hv with
  | head => exact h0
  | tail _ hv => exact ih h2 v hv
 | _ => intro l h; unfold satL at h; exact h.elim
end Go.Gv

/- One operation, reckoned on abstract values: numbers, texts, bools, fields, indexes, parts of slices, lengths. -/
namespace Go.Gv
open Go
structure Out where
 vc : List Prop
 ap : AP
 hw : List (Nat × HObj) := []
 k : Nat := 0
structure Env where
 tab : List (TypeId × (Ty × Nat))
 imm : List Nat
 rows : List Nat := []
 wraps : List Nat := []
def Env.ty (E : Env) (T : TypeId) : Option (Ty × Nat) := lookN E.tab T
def bytesOK (P : Program) (T : TypeId) (n : Nat) : Bool := match P.info? T with
 | some i => i.bytes == n
 | none => false
def eqF : Ty → Bool
 | .nl => true
 | .cs (.int _) r => eqF r
 | .cs .bool r => eqF r
 | .cs .str r => eqF r
 | .cs (.st F) r => match eqF F with
  | true => eqF r
  | false => false
 | _ => false
def depF : Ty → Nat
 | .cs (.st F) r => max (depF F + 1) (depF r)
 | .cs _ r => depF r
 | _ => 0
def eqNm (P : Program) : Ty → List Field → Bool
 | .cs (.st F) r, f :: fs => f.name != "_" && !P.stoodInHeld f.type && (match P.underlying f.type with | some (.struct g) => eqNm P F g.toList | _ => false) && eqNm P r fs
 | .cs _ r, f :: fs => f.name != "_" && eqNm P r fs
 | _, _ => true
def eqOK (P : Program) : Ty → TypeId → Bool
 | .arr _ (.int _), T => !P.eqGuardType P.depth T
 | .st F, T => !eqF F || (!P.stoodInHeld T && !P.eqGuardType P.depth T && Nat.ble (depF F) 9998 && (match P.underlying T with | some (.struct f) => eqNm P F f.toList | _ => false))
 | _, _ => true
def Env.ok (P : Program) (E : Env) : Bool := E.tab.all fun e => tym P e.2.1 e.1 && bytesOK P e.1 e.2.2 && eqOK P e.2.1 e.1
theorem lookN_mem {α : Type} : ∀ {l : List (Nat × α)} {n : Nat} {x : α}, lookN l n = some x → (n, x) ∈ l
 | [], _, _, h => by cases h
 | (k, v) :: r, n, x, h => by
  simp only [lookN] at h
  split at h
  · rename_i hb
    have : k = n := Nat.eq_of_beq_eq_true hb
    simp only [Option.some.injEq] at h
    subst h; subst this; exact List.mem_cons_self
  · exact List.mem_cons_of_mem _ (lookN_mem h)
theorem Env.ty_ok {P : Program} {E : Env} (h : E.ok P = true) {T : TypeId} {t : Ty} {n : Nat} (ht : E.ty T = some (t, n)) : tym P t T = true ∧ ∃ i, P.info? T = some i ∧ i.bytes = n := by
 have := List.all_eq_true.1 h (T, (t, n)) (lookN_mem ht)
 simp only [Bool.and_eq_true] at this
 refine ⟨this.1.1, ?_⟩
 have h2 := this.1.2
 unfold bytesOK at h2
 split at h2
 · rename_i i hi; exact ⟨i, hi, by simpa using h2⟩
 · cases h2
theorem Env.eq_ok {P : Program} {E : Env} (h : E.ok P = true) {T : TypeId} {t : Ty} {n : Nat} (ht : E.ty T = some (t, n)) : eqOK P t T = true := by
 have := List.all_eq_true.1 h (T, (t, n)) (lookN_mem ht)
 simp only [Bool.and_eq_true] at this
 exact this.2
def lo : IntKind → Int
 | .i8 => -128
 | .i16 => -32768
 | .i32 => -2147483648
 | .i64 => -9223372036854775808
 | _ => 0
def hi : IntKind → Int
 | .i8 => 127
 | .i16 => 32767
 | .i32 => 2147483647
 | .i64 => 9223372036854775807
 | .u8 => 255
 | .u16 => 65535
 | .u32 => 4294967295
 | .u64 => 18446744073709551615
theorem has_iff {k : IntKind} {n : Int} : k.has n ↔ lo k ≤ n ∧ n ≤ hi k := by
 cases k <;> simp [IntKind.has, IntKind.min, IntKind.max, IntKind.signed, IntKind.bits, lo, hi]
theorem wrap_of_has {k : IntKind} {n : Int} (h : k.has n) : k.wrap n = n := by
 rw [has_iff] at h
 cases k <;> simp only [lo, hi] at h <;> simp [IntKind.wrap, IntKind.signed, IntKind.bits] <;> omega
def OpRun (P : Program) (C : Ctx) (hp : Nat → HObj) (β : Asg) (a : Act) (G : GW) (o : Oper) (out : Out) : Prop :=
 ∃ nx v β' G', (execOp a.eval o).run P G.w = .ok nx G'.w ∧ (nx = .value v ∨ (nx = .skip ∧ v = undef)) ∧ HInv C (hset hp out.hw) β' G' ∧ β.le β' ∧ G.le G' ∧ sat out.ap β' G' v
theorem OpRun.pure {P : Program} {C : Ctx} {hp : Nat → HObj} {β : Asg} {a : Act} {G : GW} {o : Oper} {vc : List Prop} {ap : AP} (H : HInv C hp β G) {v : Value}
    (hr : (execOp a.eval o).run P G.w = .ok (.value v) G.w) (hs : sat ap β G v) : OpRun P C hp β a G o { vc := vc, ap := ap } :=
 ⟨.value v, v, β, G, hr, .inl rfl, H, Asg.le_refl β, G.le_refl, hs⟩
def Sound (P : Program) (hp : Nat → HObj) (o : Oper) (args : List AP) (out : Out) : Prop :=
 (∀ p ∈ out.vc, p) → ∀ (C : Ctx) (β : Asg) (a : Act) (G : GW), HInv C hp β G →
  (∀ (i : Nat) (x : Operand) (X : AP), o.op.operands.toList[i]? = some x → args[i]? = some X → sat X β G (a.eval x)) → OpRun P C hp β a G o out
def pureOut (X : AP) : Out := { vc := [], ap := X }
def propOf : AP → Option Prop
 | .blit true => some True
 | .blit false => some False
 | .dec p => some p
 | .dat .bool b => some (b = true)
 | _ => none
theorem propOf_sat {X : AP} {p : Prop} {β : Asg} {G : GW} {v : Value} (h : propOf X = some p) (hs : sat X β G v) : (p → v = .bool true) ∧ (¬ p → v = .bool false) := by
 unfold propOf at h
 split at h <;> first | (cases h; done) | (simp only [Option.some.injEq] at h; try subst h; unfold sat at hs)
 · exact ⟨fun _ => hs, fun h => (h trivial).elim⟩
 · exact ⟨fun h => h.elim, fun _ => hs⟩
 · exact hs
 · rename_i b
   have h1 := hs.to_one rfl
   unfold Rep at h1
   simp only [List.cons.injEq, and_true] at h1
   exact ⟨fun e => by rw [h1, e], fun e => by rw [h1]; simp at e; rw [e]⟩
theorem sat_dec_of {p : Prop} [Decidable p] {β : Asg} {G : GW} {b : Bool} (h : b = decide p) : sat (.dec p) β G (.bool b) := by
 unfold sat; subst h; exact ⟨fun h => by simp [h], fun h => by simp [h]⟩
theorem sat_int {k : IntKind} {n : Int} {β : Asg} {G : GW} (h : k.has n) : sat (.dat (.int k) n) β G (.int k n) := by
 unfold sat; exact .of_one rfl ⟨rfl, h⟩
theorem int_sat {k : IntKind} {n : Int} {β : Asg} {G : GW} {v : Value} (h : sat (.dat (.int k) n) β G v) : v = .int k n ∧ k.has n := by
 unfold sat at h
 have := h.to_one rfl
 unfold Rep at this
 exact ⟨by simpa using this.1, this.2⟩
theorem sat_str {s : List UInt8} {β : Asg} {G : GW} (h : s.length ≤ maxLen) : sat (.dat .str s) β G (strV s) := by
 unfold sat; exact .of_one rfl ⟨rfl, h⟩
theorem str_sat {s : List UInt8} {β : Asg} {G : GW} {v : Value} (h : sat (.dat .str s) β G v) : v = strV s ∧ s.length ≤ maxLen := by
 unfold sat at h
 have := h.to_one rfl
 unfold Rep at this
 exact ⟨by simpa using this.1, this.2⟩
theorem sat_bool {b : Bool} {β : Asg} {G : GW} : sat (.dat .bool b) β G (.bool b) := by
 unfold sat; exact .of_one rfl (by unfold Rep; rfl)
def strLt (a b : List UInt8) : Prop := Op.bytesLess a b = true
def shrV (k : IntKind) (a b : Int) : Int := a.fdiv (2 ^ (min b.toNat k.bits))
theorem shr1 (a : Int) : shrV .u64 a 1 = a / 2 := by
 show a.fdiv 2 = a / 2
 exact Int.fdiv_eq_ediv_of_nonneg a (by decide)
def binI (op : BinOp) (k : IntKind) (a b : Int) : Option (List Prop × AP) :=
 match op with
 | .add => some ([lo k ≤ a + b, a + b ≤ hi k], .dat (.int k) (a + b))
 | .sub => some ([lo k ≤ a - b, a - b ≤ hi k], .dat (.int k) (a - b))
 | .mul => some ([lo k ≤ a * b, a * b ≤ hi k], .dat (.int k) (a * b))
 | .quo => some ([b ≠ 0, lo k ≤ a.tdiv b, a.tdiv b ≤ hi k], .dat (.int k) (a.tdiv b))
 | .rem => some ([b ≠ 0, lo k ≤ a.tmod b, a.tmod b ≤ hi k], .dat (.int k) (a.tmod b))
 | .eql => some ([], .dec (a = b))
 | .neq => some ([], .dec (a ≠ b))
 | .lss => some ([], .dec (a < b))
 | .leq => some ([], .dec (a ≤ b))
 | .gtr => some ([], .dec (b < a))
 | .geq => some ([], .dec (b ≤ a))
 | .shr => some ([0 ≤ b, lo k ≤ shrV k a b, shrV k a b ≤ hi k], .dat (.int k) (shrV k a b))
 | _ => none
def binS (op : BinOp) (a b : List UInt8) : Option (List Prop × AP) :=
 match op with
 | .add => some ([a.length + b.length ≤ maxLen], .dat .str (a ++ b))
 | .eql => some ([], .dec (a = b))
 | .neq => some ([], .dec (a ≠ b))
 | .lss => some ([], .dec (strLt a b))
 | .leq => some ([], .dec (strLt a b ∨ a = b))
 | .gtr => some ([], .dec (¬ (strLt a b ∨ a = b)))
 | .geq => some ([], .dec (¬ strLt a b))
 | _ => none
def nilOf : AP → Option Bool
 | .val (.pointer none) => some true
 | .ptr _ _ => some false
 | .loc _ _ => some false
 | .rloc _ _ _ _ => some false
 | _ => none
def nilS (op : BinOp) : AP → AP → Option (List Prop × AP)
 | .val (.slice (some _) _ _), .val (.slice none 0 0) => match op with
  | .eql => some ([], .blit false)
  | .neq => some ([], .blit true)
  | _ => none
 | .val (.slice none 0 0), .val (.slice none 0 0) => match op with
  | .eql => some ([], .blit true)
  | .neq => some ([], .blit false)
  | _ => none
 | .dat (.sl _) xs, .val (.slice none 0 0) => match op with
  | .eql => some ([0 < List.length xs], .blit false)
  | .neq => some ([0 < List.length xs], .blit true)
  | _ => none
 | _, _ => none
def fnNil (op : BinOp) : AP → AP → Option (List Prop × AP)
 | .dat .fn x, .val .nilFunc => match op with
  | .eql => some ([], .dec (x = (none : Option Nat)))
  | .neq => some ([], .dec (¬ x = (none : Option Nat)))
  | _ => none
 | _, _ => none
def modOf : IntKind → Option Int
 | .u8 => some 256
 | .u16 => some 65536
 | .u32 => some 4294967296
 | .u64 => some 18446744073709551616
 | _ => none
theorem modOf_wrap {k : IntKind} {m : Int} (h : modOf k = some m) (n : Int) : k.wrap n = n % m ∧ k.has (n % m) := by
 rw [has_iff]
 cases k <;> simp only [modOf, Option.some.injEq] at h <;> first | (cases h; done) | skip
 all_goals
  subst h
  refine ⟨by simp [IntKind.wrap, IntKind.signed, IntKind.bits], Int.emod_nonneg _ (by decide), Int.le_of_lt_add_one (Int.emod_lt_of_pos n (by decide))⟩
def wrpK (k : IntKind) (n : Int) : Option Int := match k with
 | .i64 => some ((n + 9223372036854775808) % 18446744073709551616 - 9223372036854775808)
 | k => match modOf k with
  | some m => some (n % m)
  | none => none
theorem wrpK_wrap {k : IntKind} {n z : Int} (h : wrpK k n = some z) : k.wrap n = z ∧ k.has z := by
 unfold wrpK at h
 split at h
 · simp only [Option.some.injEq] at h
   subst h
   rw [has_iff]
   refine ⟨?_, by simp [lo]; omega, by simp [hi]; omega⟩
   simp [IntKind.wrap, IntKind.signed, IntKind.bits]
   split <;> omega
 · split at h
   · rename_i m hm
     simp only [Option.some.injEq] at h
     subst h
     exact modOf_wrap hm n
   · cases h
def wrapA (op : BinOp) : AP → AP → Option AP
 | .dat (.int k) a, .dat (.int k') b => match decide (k = k') with
  | true => match op with
   | .add => match wrpK k (a + b) with
    | some z => some (.dat (.int k) z)
    | none => none
   | .sub => match wrpK k (a - b) with
    | some z => some (.dat (.int k) z)
    | none => none
   | .mul => match wrpK k (a * b) with
    | some z => some (.dat (.int k) z)
    | none => none
   | _ => none
  | false => none
 | _, _ => none
noncomputable def binA (E : Env) (op : BinOp) (T : TypeId) (X Y : AP) : Option (List Prop × AP) :=
 match X, Y with
 | .dat (.int k) a, .dat (.int k') b => match decide (k = k') with
  | true => binI op k a b
  | false => none
 | .dat .str a, .dat .str b => binS op a b
 | X, Y => match E.ty T with
  | some (.bool, _) => match propOf X, propOf Y with
   | some p, some q => match op with
    | .eql => some ([], .dec (p ↔ q))
    | .neq => some ([], .dec (¬ (p ↔ q)))
    | _ => none
   | _, _ => none
  | some (.ot (_ + 2), _) => match op, nilOf X, nilOf Y with
   | .eql, some true, some b => some ([], .blit b)
   | .eql, some false, some true => some ([], .blit false)
   | .neq, some true, some b => some ([], .blit (!b))
   | .neq, some false, some true => some ([], .blit true)
   | _, _, _ => none
  | some (.sl _, _) => nilS op X Y
  | some (.fn, _) => fnNil op X Y
  | some (.arr n (.int q), _) => match toDat (fun _ => .none) (.arr n (.int q)) X, toDat (fun _ => .none) (.arr n (.int q)) Y with
   | some a, some b => match op with
    | .eql => some ([], .dec (a = b))
    | .neq => some ([], .dec (¬ a = b))
    | _ => none
   | _, _ => none
  | some (.st F, _) => match eqF F, toDat (fun _ => .none) (.st F) X, toDat (fun _ => .none) (.st F) Y with
   | true, some a, some b => match op with
    | .eql => some ([], .dec (a = b))
    | .neq => some ([], .dec (¬ a = b))
    | _ => none
   | _, _, _ => none
  | _ => none
theorem binI_run {P : Program} {op : BinOp} {k : IntKind} {T : TypeId} {a b : Int} {vc : List Prop} {ap : AP} (h : binI op k a b = some (vc, ap)) (hv : ∀ p ∈ vc, p) (β : Asg) (G : GW) (w : World) :
    ∃ v, (binOp op T (.int k a) (.int k b)).run P w = .ok v w ∧ sat ap β G v := by
 unfold binI at h
 split at h <;> first | (cases h; done) | (simp only [Option.some.injEq, Prod.mk.injEq] at h; obtain ⟨rfl, rfl⟩ := h)
 · have h1 : k.has (a + b) := has_iff.2 ⟨hv _ (by simp), hv _ (by simp)⟩
   exact ⟨_, by simp [binOp, Op.intArith, wrap_of_has h1], sat_int h1⟩
 · have h1 : k.has (a - b) := has_iff.2 ⟨hv _ (by simp), hv _ (by simp)⟩
   exact ⟨_, by simp [binOp, Op.intArith, wrap_of_has h1], sat_int h1⟩
 · have h1 : k.has (a * b) := has_iff.2 ⟨hv _ (by simp), hv _ (by simp)⟩
   exact ⟨_, by simp [binOp, Op.intArith, wrap_of_has h1], sat_int h1⟩
 · have h1 : k.has (a.tdiv b) := has_iff.2 ⟨hv _ (by simp), hv _ (by simp)⟩
   have h0 : b ≠ 0 := hv _ (by simp)
   exact ⟨_, by simp [binOp, Op.intDiv, h0, wrap_of_has h1], sat_int h1⟩
 · have h1 : k.has (a.tmod b) := has_iff.2 ⟨hv _ (by simp), hv _ (by simp)⟩
   have h0 : b ≠ 0 := hv _ (by simp)
   exact ⟨_, by simp [binOp, Op.intDiv, h0], sat_int h1⟩
 · exact ⟨_, by simp [binOp, Op.intCmp]; rfl, sat_dec_of rfl⟩
 · exact ⟨.bool (a != b), by simp [binOp, Op.intCmp], sat_dec_of (by simp [bne, Bool.not_eq_eq_eq_not]; rfl)⟩
 · exact ⟨_, by simp [binOp, Op.intCmp], sat_dec_of rfl⟩
 · exact ⟨_, by simp [binOp, Op.intCmp], sat_dec_of rfl⟩
 · exact ⟨_, by simp [binOp, Op.intCmp], sat_dec_of rfl⟩
 · exact ⟨_, by simp [binOp, Op.intCmp], sat_dec_of rfl⟩
 · have h1 : k.has (shrV k a b) := has_iff.2 ⟨hv _ (by simp), hv _ (by simp)⟩
   have h0 : 0 ≤ b := hv _ (by simp)
   have h0' : ¬ b < 0 := by omega
   exact ⟨.int k (shrV k a b), by simp [binOp, Op.shift, h0', shrV], sat_int h1⟩
theorem binS_run {P : Program} {op : BinOp} {T : TypeId} {a b : List UInt8} {vc : List Prop} {ap : AP} (h : binS op a b = some (vc, ap)) (hv : ∀ p ∈ vc, p) (β : Asg) (G : GW) (w : World) :
    ∃ v, (binOp op T (strV a) (strV b)).run P w = .ok v w ∧ sat ap β G v := by
 unfold binS at h
 split at h <;> first | (cases h; done) | (simp only [Option.some.injEq, Prod.mk.injEq] at h; obtain ⟨rfl, rfl⟩ := h)
 · have h1 : a.length + b.length ≤ maxLen := hv _ (by simp)
   have h2 : ¬ (((⟨⟨a⟩⟩ : ByteArray).size + (⟨⟨b⟩⟩ : ByteArray).size : Nat) : Int) > IntKind.i64.max := by
    have e1 : (⟨⟨a⟩⟩ : ByteArray).size = a.length := rfl
    have e2 : (⟨⟨b⟩⟩ : ByteArray).size = b.length := rfl
    rw [e1, e2]
    simp only [maxLen] at h1
    simp [IntKind.max, IntKind.signed, IntKind.bits]
    omega
   refine ⟨strV (a ++ b), ?_, sat_str (by simpa using h1)⟩
   simp only [binOp, strV, Op.stringOp, h2, if_false, Sem.run_pure]
   congr 2
 · refine ⟨.bool (a == b), by simp [binOp, strV, Op.stringOp], sat_dec_of ?_⟩
   by_cases e : a = b <;> simp [e]
 · refine ⟨.bool (!(a == b)), by simp [binOp, strV, Op.stringOp], sat_dec_of ?_⟩
   by_cases e : a = b <;> simp [e]
 · exact ⟨.bool (Op.bytesLess a b), by simp [binOp, strV, Op.stringOp], by unfold sat strLt; exact ⟨fun h => by rw [h], fun h => by simp at h; rw [h]⟩⟩
 · refine ⟨.bool (Op.bytesLess a b || a == b), by simp [binOp, strV, Op.stringOp], ?_⟩
   unfold sat strLt
   by_cases e : a = b <;> cases Op.bytesLess a b <;> simp [e]
 · refine ⟨.bool !(Op.bytesLess a b || a == b), by simp [binOp, strV, Op.stringOp], ?_⟩
   unfold sat strLt
   by_cases e : a = b <;> cases Op.bytesLess a b <;> simp [e]
 · refine ⟨.bool !(Op.bytesLess a b), by simp [binOp, strV, Op.stringOp], ?_⟩
   unfold sat strLt
   cases Op.bytesLess a b <;> simp
theorem wrapA_run {P : Program} {op : BinOp} {T : TypeId} {X Y ap : AP} (h : wrapA op X Y = some ap) {β : Asg} {G : GW} {u v : Value} (hu : sat X β G u) (hw : sat Y β G v) (x y : Operand) (w : World) :
    ∃ r, (do eqGuard op T x y u v; binOp op T u v : Sem Value).run P w = .ok r w ∧ sat ap β G r := by
 unfold wrapA at h
 split at h
 · rename_i k a k' b
   split at h
   · rename_i hd
     have hd := of_decide_eq_true hd
     subst hd
     obtain ⟨rfl, _⟩ := int_sat hu
     obtain ⟨rfl, _⟩ := int_sat hw
     split at h
     case h_4 => cases h
     all_goals
      split at h
      · rename_i z hz
        simp only [Option.some.injEq] at h; subst h
        obtain ⟨h1, h2⟩ := wrpK_wrap hz
        exact ⟨_, by simp [eqGuard, binOp, Op.intArith, h1], sat_int h2⟩
      · cases h
   · cases h
 · cases h
theorem fn_sat {x : Option Nat} {β : Asg} {G : GW} {v : Value} (h : sat (.dat .fn x) β G v) : (x = none ∧ v = .nilFunc) ∨ ∃ g, x = some g ∧ v = .func (.func g) #[] #[] := by
 unfold sat at h
 have := h.to_one rfl
 cases x with
 | none => unfold Rep at this; exact .inl ⟨rfl, by simpa using this⟩
 | some g => unfold Rep at this; exact .inr ⟨g, rfl, by simpa using this⟩
theorem eqIn_fn1 {P : Program} {T : TypeId} {a b : Array TypeId} {c : Bool} (d : Nat) (hu : P.underlying T = some (.func a b c)) (w : World) : (Op.equalIn (d + 1) T .nilFunc .nilFunc).run P w = .ok true w := by
 simp [Op.equalIn, underlying, hu]
theorem eqIn_fn2 {P : Program} {T : TypeId} {a b : Array TypeId} {c : Bool} (d : Nat) (hu : P.underlying T = some (.func a b c)) (f : Fn) (x y : Array Value) (w : World) : (Op.equalIn (d + 1) T (.func f x y) .nilFunc).run P w = .ok false w := by
 simp [Op.equalIn, underlying, hu]
theorem eq_fn1 {P : Program} {T : TypeId} {a b : Array TypeId} {c : Bool} (hu : P.underlying T = some (.func a b c)) (w : World) : (Op.equal T .nilFunc .nilFunc).run P w = .ok true w := eqIn_fn1 9999 hu w
theorem eq_fn2 {P : Program} {T : TypeId} {a b : Array TypeId} {c : Bool} (hu : P.underlying T = some (.func a b c)) (f : Fn) (x y : Array Value) (w : World) : (Op.equal T (.func f x y) .nilFunc).run P w = .ok false w := eqIn_fn2 9999 hu f x y w
theorem fnNil_run {P : Program} {op : BinOp} {T : TypeId} {a b : Array TypeId} {c : Bool} (hT : P.underlying T = some (.func a b c)) {X Y ap : AP} {vc : List Prop} (h : fnNil op X Y = some (vc, ap)) {β : Asg} {G : GW} {u v : Value} (hu : sat X β G u) (hw : sat Y β G v) (x y : Operand) (w : World) :
    ∃ r, (do eqGuard op T x y u v; binOp op T u v : Sem Value).run P w = .ok r w ∧ sat ap β G r := by
 unfold fnNil at h
 split at h
 · rename_i z
   unfold sat at hw
   subst hw
   rcases fn_sat hu with ⟨rfl, rfl⟩ | ⟨g, rfl, rfl⟩
   · split at h <;> first | (cases h; done) | (simp only [Option.some.injEq, Prod.mk.injEq] at h; obtain ⟨rfl, rfl⟩ := h)
     · exact ⟨.bool true, by simp [eqGuard, binOp, eq_fn1 hT], by unfold sat; simp⟩
     · exact ⟨.bool false, by simp [eqGuard, binOp, eq_fn1 hT], by unfold sat; simp⟩
   · split at h <;> first | (cases h; done) | (simp only [Option.some.injEq, Prod.mk.injEq] at h; obtain ⟨rfl, rfl⟩ := h)
     · exact ⟨.bool false, by simp [eqGuard, binOp, eq_fn2 hT], by unfold sat; simp⟩
     · exact ⟨.bool true, by simp [eqGuard, binOp, eq_fn2 hT], by unfold sat; simp⟩
 · cases h
theorem nilOf_sat {X : AP} {b : Bool} {β : Asg} {G : GW} {v : Value} (h : nilOf X = some b) (hs : sat X β G v) : ∃ o : Option Addr, v = .pointer o ∧ o.isNone = b := by
 unfold nilOf at h
 split at h <;> first | (cases h; done) | (simp only [Option.some.injEq] at h; subst h; unfold sat at hs)
 · exact ⟨none, hs, rfl⟩
 · obtain ⟨_, _, _, rfl, _⟩ := hs; exact ⟨_, rfl, rfl⟩
 · obtain ⟨_, _, rfl⟩ := hs; exact ⟨_, rfl, rfl⟩
 · obtain ⟨_, _, _, _, _, rfl⟩ := hs; exact ⟨_, rfl, rfl⟩
theorem eqGuard_run {P : Program} {op : BinOp} {T : TypeId} {x y : Operand} {u v : Value} (h1 : u ≠ .nilIface) (h2 : ∀ c, u ≠ .agg c) (w : World) : (eqGuard op T x y u v).run P w = .ok () w := by
 unfold eqGuard
 cases u <;> cases v <;> first | exact (h1 rfl).elim | exact (h2 _ rfl).elim | (cases op <;> rfl)
theorem eqIn_bool {P : Program} {T : TypeId} (d : Nat) (hu : P.underlying T = some .bool) (a b : Bool) (w : World) : (Op.equalIn (d + 1) T (.bool a) (.bool b)).run P w = .ok (a == b) w := by
 simp [Op.equalIn, underlying, hu]
theorem eqIn_ptr1 {P : Program} {T e : TypeId} (d : Nat) (hu : P.underlying T = some (.pointer e)) (b : Option Addr) (w : World) : (Op.equalIn (d + 1) T (.pointer none) (.pointer b)).run P w = .ok b.isNone w := by
 simp [Op.equalIn, underlying, hu]
theorem eqIn_ptr2 {P : Program} {T e : TypeId} (d : Nat) (hu : P.underlying T = some (.pointer e)) (a : Addr) (w : World) : (Op.equalIn (d + 1) T (.pointer (some a)) (.pointer none)).run P w = .ok false w := by
 simp [Op.equalIn, underlying, hu]
theorem eq_bool {P : Program} {T : TypeId} (hu : P.underlying T = some .bool) (a b : Bool) (w : World) : (Op.equal T (.bool a) (.bool b)).run P w = .ok (a == b) w := eqIn_bool 9999 hu a b w
theorem eq_ptr1 {P : Program} {T e : TypeId} (hu : P.underlying T = some (.pointer e)) (b : Option Addr) (w : World) : (Op.equal T (.pointer none) (.pointer b)).run P w = .ok b.isNone w := eqIn_ptr1 9999 hu b w
theorem eq_ptr2 {P : Program} {T e : TypeId} (hu : P.underlying T = some (.pointer e)) (a : Addr) (w : World) : (Op.equal T (.pointer (some a)) (.pointer none)).run P w = .ok false w := eqIn_ptr2 9999 hu a w
theorem prop_val {p : Prop} {v : Value} (h : (p → v = .bool true) ∧ (¬ p → v = .bool false)) : ∃ b : Bool, v = .bool b ∧ (b = true ↔ p) := by
 by_cases hp : p
 · exact ⟨true, h.1 hp, by simp [hp]⟩
 · exact ⟨false, h.2 hp, by simp [hp]⟩
theorem eqIn_sl1 {P : Program} {T e : TypeId} (d : Nat) (hu : P.underlying T = some (.slice e)) (w : World) : (Op.equalIn (d + 1) T (.slice none 0 0) (.slice none 0 0)).run P w = .ok true w := by
 simp [Op.equalIn, underlying, hu]
theorem eqIn_sl2 {P : Program} {T e : TypeId} (d : Nat) (hu : P.underlying T = some (.slice e)) (a : Addr) (l c : Nat) (w : World) : (Op.equalIn (d + 1) T (.slice (some a) l c) (.slice none 0 0)).run P w = .ok false w := by
 simp [Op.equalIn, underlying, hu]
theorem eq_sl1 {P : Program} {T e : TypeId} (hu : P.underlying T = some (.slice e)) (w : World) : (Op.equal T (.slice none 0 0) (.slice none 0 0)).run P w = .ok true w := eqIn_sl1 9999 hu w
theorem eq_sl2 {P : Program} {T e : TypeId} (hu : P.underlying T = some (.slice e)) (a : Addr) (l c : Nat) (w : World) : (Op.equal T (.slice (some a) l c) (.slice none 0 0)).run P w = .ok false w := eqIn_sl2 9999 hu a l c w
theorem nilS_run {P : Program} {op : BinOp} {T e : TypeId} (hu : P.underlying T = some (.slice e)) {X Y : AP} {vc : List Prop} {ap : AP} (h : nilS op X Y = some (vc, ap)) (hv : ∀ p ∈ vc, p) {β : Asg} {G : GW} {u v : Value} (hs : sat X β G u) (hw : sat Y β G v) (x y : Operand) (w : World) :
    ∃ r, (do eqGuard op T x y u v; binOp op T u v : Sem Value).run P w = .ok r w ∧ sat ap β G r := by
 unfold nilS at h
 split at h
 · unfold sat at hs hw
   subst hs hw
   split at h <;> first | (cases h; done) | (simp only [Option.some.injEq, Prod.mk.injEq] at h; obtain ⟨rfl, rfl⟩ := h)
   · exact ⟨.bool false, by simp [eqGuard_run, binOp, eq_sl2 hu], by unfold sat; rfl⟩
   · exact ⟨.bool true, by simp [eqGuard_run, binOp, eq_sl2 hu], by unfold sat; rfl⟩
 · unfold sat at hs hw
   subst hs hw
   split at h <;> first | (cases h; done) | (simp only [Option.some.injEq, Prod.mk.injEq] at h; obtain ⟨rfl, rfl⟩ := h)
   · exact ⟨.bool true, by simp [eqGuard_run, binOp, eq_sl1 hu], by unfold sat; rfl⟩
   · exact ⟨.bool false, by simp [eqGuard_run, binOp, eq_sl1 hu], by unfold sat; rfl⟩
 · rename_i t xs
   unfold sat at hs hw
   subst hw
   have hr := hs.to_one rfl
   unfold Rep at hr
   obtain ⟨base, cap, e1, h1, h2, h3, _⟩ := hr
   simp only [List.cons.injEq, and_true] at e1
   subst e1
   split at h <;> first | (cases h; done) | (simp only [Option.some.injEq, Prod.mk.injEq] at h; obtain ⟨rfl, rfl⟩ := h)
   · cases base with
     | none => have := hv _ List.mem_cons_self; have := h3 rfl; omega
     | some a => exact ⟨.bool false, by simp [eqGuard_run, binOp, eq_sl2 hu], by unfold sat; rfl⟩
   · cases base with
     | none => have := hv _ List.mem_cons_self; have := h3 rfl; omega
     | some a => exact ⟨.bool true, by simp [eqGuard_run, binOp, eq_sl2 hu], by unfold sat; rfl⟩
 · cases h
theorem part_one {P : Program} {t : Ty} {T : TypeId} (hT : tym P t T = true) (ha : t.agg = false) {cs : List Value} {p : Nat} {v : Value} (hv : cs[p]? = some v) (w : World) : (part T cs.toArray p).run P w = .ok v w := by
 simp [part, isAgg_run hT, ha, hv]
theorem eqIn_basic {P : Program} {t : Ty} {T : TypeId} (hT : tym P t T = true) (hb : t = .bool ∨ t = .str ∨ ∃ k, t = .int k) {a b : Dat t} {G : GW} {u v : Value} (hu : Rep t a G [u]) (hv : Rep t b G [v]) (d : Nat) (w : World) :
    ∃ r, (Op.equalIn (d + 1) T u v).run P w = .ok r w ∧ (r = true ↔ a = b) := by
 obtain rfl | rfl | ⟨k, rfl⟩ := hb
 · unfold Rep at hu hv
   simp only [List.cons.injEq, and_true] at hu hv
   subst hu hv
   exact ⟨a == b, eqIn_bool d (und_bool hT) a b w, beq_iff_eq⟩
 · obtain ⟨hu, _⟩ := hu; obtain ⟨hv, _⟩ := hv
   simp only [List.cons.injEq, and_true] at hu hv
   subst hu hv
   refine ⟨_, by unfold strV; exact run_equalIn_string w d T _ _ (und_str hT), ?_⟩
   rw [← beq_toListBytes]
   show ((⟨a⟩ : Array UInt8) == ⟨b⟩) = true ↔ _
   rw [beq_iff_eq]
   exact ⟨fun e => by injection e, fun e => by rw [show a = b from e]⟩
 · unfold Rep at hu hv
   obtain ⟨hu, _⟩ := hu; obtain ⟨hv, _⟩ := hv
   simp only [List.cons.injEq, and_true] at hu hv
   subst hu hv
   exact ⟨_, run_equalIn_int w d T k k a b (und_int hT), beq_iff_eq⟩
theorem arr_key {n : Nat} {q : IntKind} {xs : List Int} {G : GW} {v : Value} (h : RepV (.arr n (.int q)) xs G v) : v = .agg (xs.map (Value.int q)).toArray ∧ xs.length = n ∧ ∀ x ∈ xs, q.has x := by
 obtain ⟨cs, rfl, hc⟩ := h.to_agg rfl
 unfold Rep at hc
 obtain ⟨h1, h2, h3⟩ := hc
 have hl : cs.length = n := by rw [h2]; simp [Ty.size]
 have hat : ∀ (i : Nat) (x : Int), xs[i]? = some x → cs[i]? = some (.int q x) ∧ q.has x := fun i x hx => by
  have := h3 i x hx
  unfold Rep at this
  obtain ⟨e, hq⟩ := this
  have := congrArg (fun l => l[0]?) e
  simp [Ty.size] at this
  exact ⟨this, hq⟩
 refine ⟨?_, h1, fun x hx => ?_⟩
 · have : cs = xs.map (Value.int q) := by
    apply List.ext_getElem?
    intro i
    rw [List.getElem?_map]
    cases hx : xs[i]? with
    | none =>
     have : xs.length ≤ i := List.getElem?_eq_none_iff.1 hx
     rw [List.getElem?_eq_none (by rw [hl, ← h1]; exact this)]; rfl
    | some x => rw [(hat i x hx).1]; rfl
   rw [this]
 · obtain ⟨i, hi, rfl⟩ := List.getElem_of_mem hx
   exact (hat i _ (List.getElem?_eq_getElem hi)).2
theorem cells_int {P : Program} {q : IntKind} {e : TypeId} (hT : tym P (.int q) e = true) : ∃ i, P.info? e = some i ∧ P.cellsOf e = 1 := by
 obtain ⟨i, hi, hs, _⟩ := tym_info hT
 exact ⟨i, hi, by simp [Program.cellsOf, hi, hs, Ty.size]⟩
theorem eqItems_int {P : Program} {q : IntKind} {e : TypeId} (hT : tym P (.int q) e = true) (d : Nat) (xs ys : List Int) (w : World) : ∀ (is : List Nat), (∀ i ∈ is, i < xs.length ∧ i < ys.length) →
    ∃ r, (Op.eqItems (d + 1) e 1 (xs.map (Value.int q)).toArray (ys.map (Value.int q)).toArray is).run P w = .ok r w ∧ (r = true ↔ ∀ i ∈ is, xs[i]? = ys[i]?)
 | [], _ => ⟨true, by simp [Op.eqItems], by simp⟩
 | i :: is, h => by
  obtain ⟨r, hr, hre⟩ := eqItems_int hT d xs ys w is fun j hj => h j (List.mem_cons_of_mem _ hj)
  obtain ⟨h1, h2⟩ := h i List.mem_cons_self
  have p1 := part_one (P := P) hT rfl (cs := xs.map (Value.int q)) (p := i) (v := .int q xs[i]) (by simp [h1]) w
  have p2 := part_one (P := P) hT rfl (cs := ys.map (Value.int q)) (p := i) (v := .int q ys[i]) (by simp [h2]) w
  have p3 := run_equalIn_int w d e q q xs[i] ys[i] (und_int hT)
  by_cases hxy : xs[i] = ys[i]
  · refine ⟨r, ?_, ?_⟩
    · have e1 : (xs[i] == ys[i]) = true := by rw [hxy]; exact beq_self_eq_true _
      rw [e1] at p3
      simp [Op.eqItems, p1, p2, p3, hr]
    · rw [hre]
      simp only [List.mem_cons, forall_eq_or_imp, List.getElem?_eq_getElem h1, List.getElem?_eq_getElem h2, hxy, true_and]
  · refine ⟨false, ?_, ?_⟩
    · have e1 : (xs[i] == ys[i]) = false := by simpa using hxy
      rw [e1] at p3
      simp [Op.eqItems, p1, p2, p3]
    · simp only [Bool.false_eq_true, List.mem_cons, forall_eq_or_imp, List.getElem?_eq_getElem h1, List.getElem?_eq_getElem h2, Option.some.injEq, hxy, false_and]
theorem eqArr_run {P : Program} {n : Nat} {q : IntKind} {T : TypeId} (hT : tym P (.arr n (.int q)) T = true) {xs ys : List Int} {G G' : GW} {u v : Value} (hu : RepV (.arr n (.int q)) xs G u) (hv : RepV (.arr n (.int q)) ys G' v) (d : Nat) (w : World) :
    ∃ r, (Op.equalIn (d + 2) T u v).run P w = .ok r w ∧ (r = true ↔ xs = ys) := by
 obtain ⟨rfl, l1, _⟩ := arr_key hu
 obtain ⟨rfl, l2, _⟩ := arr_key hv
 obtain ⟨e, hund, he, _⟩ := und_arr hT
 obtain ⟨i, hi, hc⟩ := cells_int he
 obtain ⟨r, hr, hre⟩ := eqItems_int he d xs ys w (List.range n) fun i hi => by rw [List.mem_range] at hi; omega
 refine ⟨r, ?_, ?_⟩
 · rw [run_equalIn_array w (d + 1) _ _ hund hi, hc]; exact hr
 · rw [hre]
   constructor
   · intro h
     apply List.ext_getElem?
     intro i
     rcases Nat.lt_or_ge i n with hi | hi
     · exact h i (List.mem_range.2 hi)
     · rw [List.getElem?_eq_none (by omega), List.getElem?_eq_none (by omega)]
   · rintro rfl _ _; rfl
theorem part_sub {P : Program} {F : Ty} {T : TypeId} (hT : tym P (.st F) T = true) {xs a1 a2 : List Value} {off : Nat} (h : xs.drop off = a1 ++ a2) (hl : a1.length = (Ty.st F).size) (w : World) : (part T xs.toArray off).run P w = .ok (.agg a1.toArray) w := by
 have : (xs.drop off).take (Ty.st F).size = a1 := by rw [h, ← hl]; simp
 simp [part, isAgg_run hT, Ty.agg, tym_size hT, this]
theorem eqFields_run {P : Program} {G : GW} : ∀ (F : Ty) (fs : List Field) (off d : Nat) {xs ys : List Value} {a b : Dat F}, tymF P F fs off = true → eqF F = true → eqNm P F fs = true → depF F ≤ d →
    Rep F a G (xs.drop off) → Rep F b G (ys.drop off) → ∀ w, ∃ r, (Op.eqFields (d + 1) xs.toArray ys.toArray fs).run P w = .ok r w ∧ (r = true ↔ a = b)
 | .nl, [], off, d, _, _, a, b, _, _, _, _, _, _, w => ⟨true, by simp [Op.eqFields], fun _ => rfl, fun _ => rfl⟩
 | .cs t r, f :: fs, off, d, xs, ys, a, b, hf, he, hn, hd, ha, hb, w => by
  simp only [tymF, Bool.and_eq_true, beq_iff_eq] at hf
  obtain ⟨⟨⟨hof, _⟩, hT⟩, hfr⟩ := hf
  unfold Rep at ha hb
  obtain ⟨a1, a2, ea, ra1, ra2⟩ := ha
  obtain ⟨b1, b2, eb, rb1, rb2⟩ := hb
  have la := ra1.length; have lb := rb1.length
  have ea2 : xs.drop (off + t.size) = a2 := by
   rw [← List.drop_drop, ea, ← la]; simp
  have eb2 : ys.drop (off + t.size) = b2 := by
   rw [← List.drop_drop, eb, ← lb]; simp
  have hof' : f.offset = off := hof
  have key : f.name ≠ "_" ∧ eqF r = true ∧ eqNm P r fs = true ∧ depF r ≤ d ∧ ∃ u v q, (part f.type xs.toArray off).run P w = .ok u w ∧ (part f.type ys.toArray off).run P w = .ok v w ∧ (Op.equalIn (d + 1) f.type u v).run P w = .ok q w ∧ (q = true ↔ a.1 = b.1) := by
   by_cases hst : ∃ F', t = .st F'
   · obtain ⟨F', rfl⟩ := hst
     have he' : eqF F' = true ∧ eqF r = true := by
      simp only [eqF] at he
      split at he
      · rename_i h; exact ⟨h, he⟩
      · cases he
     simp only [eqNm, Bool.and_eq_true, bne_iff_ne, ne_eq, Bool.not_eq_true'] at hn
     obtain ⟨⟨⟨n1, n2⟩, n3⟩, n4⟩ := hn
     simp only [depF] at hd
     obtain ⟨g, hund, hg⟩ := und_st hT
     rw [hund] at n3
     obtain ⟨d', rfl⟩ : ∃ d', d = d' + 1 := ⟨d - 1, by omega⟩
     have hfo : P.fieldsOf f.type = g := by unfold Program.fieldsOf; rw [hund]
     unfold Rep at ra1 rb1
     obtain ⟨q, hq, hqe⟩ := eqFields_run F' g.toList 0 d' (xs := a1) (ys := b1) (a := a.1) (b := b.1) hg he'.1 n3 (by omega) (by simpa using ra1) (by simpa using rb1) w
     refine ⟨n1, he'.2, n4, by omega, .agg a1.toArray, .agg b1.toArray, q, part_sub hT ea la w, part_sub hT eb lb w, ?_, hqe⟩
     rw [run_equalIn_struct w (d' + 1) f.type _ _ (by rw [hfo]; exact hund) n2, hfo]
     exact hq
   · have hbas : t = .bool ∨ t = .str ∨ ∃ k, t = .int k := by
      cases t <;> simp only [eqF] at he <;> first | exact (hst ⟨_, rfl⟩).elim | (cases he; done) | simp
     have her : eqF r = true := by
      obtain rfl | rfl | ⟨k, rfl⟩ := hbas <;> simpa only [eqF] using he
     have hnm : f.name ≠ "_" ∧ eqNm P r fs = true := by
      obtain rfl | rfl | ⟨k, rfl⟩ := hbas <;> simpa only [eqNm, Bool.and_eq_true, bne_iff_ne, ne_eq] using hn
     have hdr : depF r ≤ d := by
      obtain rfl | rfl | ⟨k, rfl⟩ := hbas <;> simpa only [depF] using hd
     have hag : t.agg = false := by obtain rfl | rfl | ⟨k, rfl⟩ := hbas <;> rfl
     have hsz : t.size = 1 := by obtain rfl | rfl | ⟨k, rfl⟩ := hbas <;> rfl
     rw [hsz] at la lb
     obtain ⟨u, rfl⟩ : ∃ u, a1 = [u] := List.length_eq_one_iff.1 la
     obtain ⟨v, rfl⟩ : ∃ v, b1 = [v] := List.length_eq_one_iff.1 lb
     have hu : xs[off]? = some u := by
      have := congrArg (fun l => l[0]?) ea
      simpa using this
     have hv : ys[off]? = some v := by
      have := congrArg (fun l => l[0]?) eb
      simpa using this
     obtain ⟨q, hq, hqe⟩ := eqIn_basic hT hbas ra1 rb1 d w
     exact ⟨hnm.1, her, hnm.2, hdr, u, v, q, part_one (P := P) hT hag hu w, part_one (P := P) hT hag hv w, hq, hqe⟩
  obtain ⟨hname, her, hnr, hdr, u, v, q, hp1, hp2, hq, hqe⟩ := key
  obtain ⟨q', hq', hqe'⟩ := eqFields_run r fs (off + t.size) d (a := a.2) (b := b.2) hfr her hnr hdr (by rw [ea2]; exact ra2) (by rw [eb2]; exact rb2) w
  cases q with
  | false =>
   refine ⟨false, by simp [Op.eqFields, hname, hof', hp1, hp2, hq], ?_⟩
   simp only [Bool.false_eq_true, false_iff]
   exact fun e => by have := hqe.2 (congrArg Prod.fst e); cases this
  | true =>
   refine ⟨q', by simp [Op.eqFields, hname, hof', hp1, hp2, hq, hq'], ?_⟩
   rw [hqe']
   have h1 := hqe.1 rfl
   exact ⟨fun e => Prod.ext h1 e, fun e => congrArg Prod.snd e⟩
theorem eqS_run {P : Program} {E : Env} (hE : E.ok P = true) {T : TypeId} {F : Ty} {n : Nat} (ht : E.ty T = some (.st F, n)) (he : eqF F = true) {a b : Dat (.st F)} {G : GW} {u v : Value} (hu : RepV (.st F) a G u) (hv : RepV (.st F) b G v) (op : BinOp) (x y : Operand) (w : World) :
    (eqGuard op T x y u v).run P w = .ok () w ∧ ∃ r, (Op.equal T u v).run P w = .ok r w ∧ (r = true ↔ a = b) ∧ (∃ cs, u = .agg cs) ∧ ∃ cs, v = .agg cs := by
 obtain ⟨cs, rfl, hc⟩ := hu.to_agg rfl
 obtain ⟨ds, rfl, hd⟩ := hv.to_agg rfl
 have hk := Env.eq_ok hE ht
 obtain ⟨fl, hund, hfl⟩ := und_st (Env.ty_ok hE ht).1
 simp only [eqOK] at hk
 rw [he] at hk
 simp only [Bool.not_true, Bool.false_or, Bool.and_eq_true, Bool.not_eq_true'] at hk
 obtain ⟨⟨⟨h1, h2⟩, h4⟩, h3⟩ := hk
 rw [hund] at h3
 refine ⟨run_eqGuard_agg w op T x y _ _ h2, ?_⟩
 have hf : P.fieldsOf T = fl := by unfold Program.fieldsOf; rw [hund]
 unfold Rep at hc hd
 obtain ⟨r, hr, hre⟩ := eqFields_run (P := P) (G := G) F fl.toList 0 9998 (xs := cs) (ys := ds) (a := a) (b := b) hfl he h3 (Nat.le_of_ble_eq_true h4) hc hd w
 refine ⟨r, ?_, hre, ⟨_, rfl⟩, _, rfl⟩
 show (Op.equalIn (9999 + 1) T _ _).run P w = _
 rw [run_equalIn_struct w 9999 T _ _ (by rw [hf]; exact hund) h1, hf]
 exact hr
theorem binA_run {P : Program} {E : Env} (hE : E.ok P = true) {op : BinOp} {T : TypeId} {X Y : AP} {vc : List Prop} {ap : AP} (h : binA E op T X Y = some (vc, ap)) (hv : ∀ p ∈ vc, p) {β : Asg} {G : GW} {u v : Value} (hu : sat X β G u) (hw : sat Y β G v) (x y : Operand) (w : World) :
    ∃ r, (do eqGuard op T x y u v; binOp op T u v : Sem Value).run P w = .ok r w ∧ sat ap β G r := by
 unfold binA at h
 split at h
 · split at h
   · rename_i hk
     have hk := of_decide_eq_true hk
     subst hk
     obtain ⟨rfl, h1⟩ := int_sat hu
     obtain ⟨rfl, h2⟩ := int_sat hw
     obtain ⟨r, hr, hs⟩ := binI_run (P := P) (T := T) h hv β G w
     exact ⟨r, by simp [eqGuard_run, hr], hs⟩
   · cases h
 · obtain ⟨rfl, h1⟩ := str_sat hu
   obtain ⟨rfl, h2⟩ := str_sat hw
   obtain ⟨r, hr, hs⟩ := binS_run (P := P) (T := T) h hv β G w
   exact ⟨r, by simp [eqGuard_run, strV] at hr ⊢; exact hr, hs⟩
 · split at h
   · rename_i n ht
     have hub := und_bool (Env.ty_ok hE ht).1
     split at h
     · rename_i p q hp hq
       obtain ⟨b, rfl, hb⟩ := prop_val (propOf_sat hp hu)
       obtain ⟨c, rfl, hc⟩ := prop_val (propOf_sat hq hw)
       split at h <;> first | (cases h; done) | (simp only [Option.some.injEq, Prod.mk.injEq] at h; obtain ⟨rfl, rfl⟩ := h)
       · refine ⟨.bool (b == c), by simp [eqGuard_run, binOp, eq_bool hub], ?_⟩
         unfold sat
         rw [← hb, ← hc]
         cases b <;> cases c <;> simp
       · refine ⟨.bool (!(b == c)), by simp [eqGuard_run, binOp, eq_bool hub], ?_⟩
         unfold sat
         rw [← hb, ← hc]
         cases b <;> cases c <;> simp
     · cases h
   · rename_i n m ht
     obtain ⟨e, hub⟩ := und_ot2 (Env.ty_ok hE ht).1
     split at h <;> first | (cases h; done) | (simp only [Option.some.injEq, Prod.mk.injEq] at h; obtain ⟨rfl, rfl⟩ := h)
     · rename_i b h1 h2
       obtain ⟨o, rfl, ho⟩ := nilOf_sat h1 hu
       obtain ⟨o', rfl, ho'⟩ := nilOf_sat h2 hw
       cases o with
       | some _ => simp at ho
       | none => exact ⟨.bool b, by simp [eqGuard_run, binOp, eq_ptr1 hub, ho'], by unfold sat; rfl⟩
     · rename_i h1 h2
       obtain ⟨o, rfl, ho⟩ := nilOf_sat h1 hu
       obtain ⟨o', rfl, ho'⟩ := nilOf_sat h2 hw
       cases o' with
       | some _ => simp at ho'
       | none =>
        cases o with
        | none => simp at ho
        | some _ => exact ⟨.bool false, by simp [eqGuard_run, binOp, eq_ptr2 hub], by unfold sat; rfl⟩
     · rename_i b h1 h2
       obtain ⟨o, rfl, ho⟩ := nilOf_sat h1 hu
       obtain ⟨o', rfl, ho'⟩ := nilOf_sat h2 hw
       cases o with
       | some _ => simp at ho
       | none => exact ⟨.bool (!b), by simp [eqGuard_run, binOp, eq_ptr1 hub, ho'], by unfold sat; rfl⟩
     · rename_i h1 h2
       obtain ⟨o, rfl, ho⟩ := nilOf_sat h1 hu
       obtain ⟨o', rfl, ho'⟩ := nilOf_sat h2 hw
       cases o' with
       | some _ => simp at ho'
       | none =>
        cases o with
        | none => simp at ho
        | some _ => exact ⟨.bool true, by simp [eqGuard_run, binOp, eq_ptr2 hub], by unfold sat; rfl⟩
   · rename_i t n ht
     obtain ⟨e, hub, _⟩ := und_sl (Env.ty_ok hE ht).1
     exact nilS_run hub h hv hu hw x y w
   · rename_i n ht
     obtain ⟨_, _, _, hub⟩ := und_fn (Env.ty_ok hE ht).1
     exact fnNil_run hub h hu hw x y w
   · rename_i m q n ht
     split at h
     case h_2 => cases h
     rename_i a b h1 h2
     have H0 : HeapSat (fun _ => .none) β G := fun h hn => (hn rfl).elim
     have ru := toDat_rep H0 h1 hu
     have rv := toDat_rep H0 h2 hw
     obtain ⟨r, hr, hre⟩ := eqArr_run (Env.ty_ok hE ht).1 ru rv 9998 w
     have hr : (Op.equal T u v).run P w = .ok r w := hr
     have hk := Env.eq_ok hE ht
     simp only [eqOK, Bool.not_eq_true'] at hk
     obtain ⟨eu, _⟩ := arr_key ru
     obtain ⟨ev, _⟩ := arr_key rv
     have hg : (eqGuard op T x y u v).run P w = .ok () w := by rw [eu, ev]; exact run_eqGuard_agg w op T x y _ _ hk
     rw [eu, ev] at hr hg ⊢
     split at h <;> first | (cases h; done) | (simp only [Option.some.injEq, Prod.mk.injEq] at h; obtain ⟨rfl, rfl⟩ := h)
     · refine ⟨.bool r, by simp [hg, binOp, hr], ?_⟩
       unfold sat
       exact ⟨fun e => by rw [hre.2 e], fun e => by
        cases r with
        | true => exact (e (hre.1 rfl)).elim
        | false => rfl⟩
     · refine ⟨.bool (!r), by simp [hg, binOp, hr], ?_⟩
       unfold sat
       exact ⟨fun e => by
        cases r with
        | true => exact (e (hre.1 rfl)).elim
        | false => rfl, fun e => by rw [hre.2 (Classical.not_not.1 e)]; rfl⟩
   · rename_i F n ht
     split at h
     case h_2 => cases h
     rename_i a b he h1 h2
     have H0 : HeapSat (fun _ => .none) β G := fun h hn => (hn rfl).elim
     obtain ⟨hg, r, hr, hre, ⟨cs, rfl⟩, ds, rfl⟩ := eqS_run hE ht he (toDat_rep H0 h1 hu) (toDat_rep H0 h2 hw) op x y w
     split at h <;> first | (cases h; done) | (simp only [Option.some.injEq, Prod.mk.injEq] at h; obtain ⟨rfl, rfl⟩ := h)
     · refine ⟨.bool r, by simp [hg, binOp, hr], ?_⟩
       unfold sat
       exact ⟨fun e => by rw [hre.2 e], fun e => by
        cases r with
        | true => exact (e (hre.1 rfl)).elim
        | false => rfl⟩
     · refine ⟨.bool (!r), by simp [hg, binOp, hr], ?_⟩
       unfold sat
       exact ⟨fun e => by
        cases r with
        | true => exact (e (hre.1 rfl)).elim
        | false => rfl, fun e => by rw [hre.2 (Classical.not_not.1 e)]; rfl⟩
   · cases h
end Go.Gv
