/- A verified generator of conditions over the code of the model. Part 7. -/
import Derived.Test.YtcioglingkccpaaGf
import Derived.Below
set_option linter.all false

/- The library's functions that take data and hand back a datum, as contracts. -/
namespace Go.Gv
open Go Go.RowKit

/-- The arguments are data. -/
def dataS : Sh → Bool
  | .cons (.d _) s => dataS s
  | .nil => true
  | _ => false

theorem dataS_canon : ∀ {s : Sh}, dataS s = true → ∀ (x : SDat s) (n : Nat) (r : List (Nat × HObj)), intoH (fun k => k) s x n r = r
  | .cons (.d t) s, h, x, n, r => dataS_canon (s := s) h x.2 (n + 0) r
  | .nil, _, _, _, _ => rfl
theorem dataS_back : ∀ {s : Sh}, dataS s = true → ∀ (hp : Nat → HObj) (x : SDat s) (n nx : Nat), fromA hp (backS s) (endAP s x n) nx = some ⟨keepS s x, [], [], nx⟩
  | .cons (.d t) s, h, hp, x, n, nx => by
    simp only [backS, endAP, fromA, toDat_dat]
    rw [dataS_back (s := s) h hp x.2 (n + nn (Sh.d t)) nx]
    rfl
  | .nil, _, _, _, _, _ => rfl

theorem Below.step {G : GW} {hp : Nat → HObj} {β : Asg} (H : HeapOK hp β G) {w' : World} (hb : Below G.w.heap.size G.w w') (hd : G.w.drawn ≤ w'.drawn ∨ G.nz) : Step (fun _ _ => False) (fun _ => False) G { G with w := w' } := {
  os := hb.os
  tape := hb.tape
  output := hb.output
  size := hb.size
  cell := fun b o hlt _ => by
    have e := hb.block b hlt
    exact ⟨by show w'.cell? _ = _; unfold World.cell?; rw [e], by show w'.frozen? _ = _; unfold World.frozen?; rw [e]⟩
  blk := fun b hlt _ _ => hb.block b hlt
  obj := fun b es c _ he => (hb.block b (Array.getElem?_eq_some_iff.1 he).1).trans he
  le := ⟨fun b o hi => ⟨hi, by show w'.cell? _ = _; unfold World.cell?; rw [hb.block b (H.old b o hi)]⟩, fun b hi => ⟨hi, hb.block b (H.oldo_lt hi)⟩⟩
  new := fun _ _ hi => .inl hi
  newo := fun _ hi => .inl hi
  drawn := hd
  nz := rfl }

theorem Below.inv {C : Ctx} {G : GW} {hp : Nat → HObj} {β : Asg} (H : HInv C hp β G) {w' : World} (hb : Below G.w.heap.size G.w w') (hd : G.w.drawn ≤ w'.drawn ∨ G.nz) : HInv C hp β { G with w := w' } := by
  have hst := Below.step H.heap hb hd
  exact H.same hst (fun b o hi => Nat.lt_of_lt_of_le (H.heap.old b o hi) hb.size) (fun b hi => by
    obtain ⟨ob, he, he'⟩ := H.heap.oldo b hi
    exact ⟨ob, (hb.block b (Array.getElem?_eq_some_iff.1 he).1).trans he, he'⟩)

/-- THE CONTRACT OF A FUNCTION ON DATA. -/
theorem lib_ok {P : Program} {gl : Glob} {f : FuncId} (hf : ∃ fn, P.funcs[f]? = some fn ∧ fn.body.isNone = false ∧ (fn.name == "runtime.NumGoroutine") = false) {ins : Sh} (hd : dataS ins = true) {t : Ty} {pre : SDat ins → Prop} {res : SDat ins → Dat t} (nz : Bool)
    (h : ∀ x, pre x → ∀ (C : Ctx) (β : Asg) (G : GW) (args : List Value), C.glob = gl → HInv C (fun _ => .none) β G → satT (intoA (fun k => k) ins x 0) β G args → Calls P f args.toArray G.w (fun e w' => ∃ v, e = .returned v ∧ Below G.w.heap.size G.w w' ∧ (nz = false → G.w.drawn ≤ w'.drawn) ∧ RepV t (res x) { G with w := w' } v)) :
    SpecOK P gl f { ins := ins, pre := pre, alts := [{ outs := .cons (.d t) .nil, res := fun x => (res x, ()) }], noisy := nz } := by
  refine ⟨hf, fun x hx => ⟨_, rfl, fun C β G args hg hz H ha => ?_⟩⟩
  have hcan : canon ins x = fun _ => .none := by
    unfold canon
    rw [dataS_canon hd]; rfl
  dsimp only at H ha hz ⊢
  rw [hcan] at H
  refine (h x hx C β G args hg H ha).mono fun e w' hr => ?_
  obtain ⟨v, rfl, hb, hdr, hv⟩ := hr
  have hdr : G.w.drawn ≤ w'.drawn ∨ G.nz := by
    cases nz with
    | false => exact .inl (hdr rfl)
    | true => exact .inr (by rw [H.step.nz]; exact hz rfl)
  have hst := Below.step H.heap hb hdr
  refine ⟨⟨fun _ => .none, β, { G with w := w' }, [.dat t (res x)], [v], 0, (res x, ()), [], [], 0, keepS ins x, [], [], 0, rfl, Below.inv H hb hdr, Asg.le_refl β, hst.le, rfl, ?_, fun _ _ => rfl, ?_, ?_, rfl, rfl, rfl, rfl⟩⟩
  · show satT (.cons (.dat t (res x)) .nil) _ _ _
    unfold satT
    refine ⟨v, [], rfl, by unfold sat; exact hv, by unfold satT; rfl⟩
  · show fromA _ (.cons (.d t) .nil) (.cons (.dat t (res x)) .nil) 0 = _
    simp only [fromA, toDat_dat]
    rfl
  · exact dataS_back hd _ x 0 0
end Go.Gv
