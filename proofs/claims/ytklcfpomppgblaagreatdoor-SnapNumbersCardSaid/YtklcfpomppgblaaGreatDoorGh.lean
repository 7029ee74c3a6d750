/- A verified generator of conditions over the code of the model. Part 8. -/
import Derived.Test.YtklcfpomppgblaaGreatDoorGg
import Derived.Deep.DeepHandedRow
import Derived.Lib.LaidTab
import Derived.Below
import Derived.Shelf.Strings.OnBuilder
import Derived.Sort.Grow
import Derived.Shelf.Strconv.Itoa3
import Derived.Lib.ItoaLen
import Derived.Shelf.SlSortCmp.InsertionK
import Derived.Shelf.Small.Bits
import Derived.Shelf.SlSortCmp.NoneTotal
set_option linter.all false

/- A law's row: its arguments read as data; a listed table; what the row asks. -/
namespace Go.Gv
open Go
theorem cell_noAgg {P : Program} {w : World} {r : Reach} {base : Nat} {t : TypeId} {v : Value} (h : Cell.okWide P w r base t v) : ∀ c, v ≠ .agg c := by
 rintro c rfl
 unfold Cell.okWide at h
 split at h <;> first | (rename_i h2; cases h2; done) | skip
 rename_i a b
 all_goals (try (cases ‹Value.agg c = _›))
 unfold Cell.ok at h
 split at h <;> first | exact h | (cases ‹Value.agg c = _›)
def argsB (P : Program) : Sh → List TypeId → Bool
 | .nil, [] => true
 | .cons (.d t) s, T :: r => plainTy t && tym P t T && argsB P s r
 | _, _ => false
theorem noAgg_of {P : Program} {w : World} {r : Reach} {base : Nat} {t : Ty} {T : TypeId} {v : Value} (hp : plainTy t = true) (ht : tym P t T = true) (hok : Value.okWide P w r base T v) : t.agg = true ↔ ∃ c, v = .agg c := by
 cases t with
 | int k => have := und_int ht; unfold Value.okWide at hok; rw [this] at hok; exact ⟨fun h => (by cases h), fun ⟨c, e⟩ => (cell_noAgg hok c e).elim⟩
 | bool => have := und_bool ht; unfold Value.okWide at hok; rw [this] at hok; exact ⟨fun h => (by cases h), fun ⟨c, e⟩ => (cell_noAgg hok c e).elim⟩
 | str => have := und_str ht; unfold Value.okWide at hok; rw [this] at hok; exact ⟨fun h => (by cases h), fun ⟨c, e⟩ => (cell_noAgg hok c e).elim⟩
 | sl t => obtain ⟨e, this, _⟩ := und_sl ht; unfold Value.okWide at hok; rw [this] at hok; exact ⟨fun h => (by cases h), fun ⟨c, e⟩ => (cell_noAgg hok c e).elim⟩
 | nl => simp [tym] at ht
 | cs a b => simp [tym] at ht
 | st fs => obtain ⟨f, this, _⟩ := und_st ht; unfold Value.okWide at hok; rw [this] at hok; exact ⟨fun _ => let ⟨c, e, _⟩ := hok; ⟨c, e⟩, fun _ => rfl⟩
 | arr n t => obtain ⟨e, this, _⟩ := und_arr ht; unfold Value.okWide at hok; rw [this] at hok; exact ⟨fun _ => let ⟨c, e, _⟩ := hok; ⟨c, e⟩, fun _ => rfl⟩
 | mp k v => cases hp
 | pt t => cases hp
 | ot k => cases hp
 | fn => cases hp
 | ni => cases hp
 | ifc u t r => cases hp
section
variable {H : Type} {enc : TypeId × Value → H} {P : Program} {W : World}
theorem args_sat {base : Nat} : ∀ (s : Sh) (ts : List TypeId) (vs : List Value) (ds : List (DataW H)) (ps : List MemPlace), argsB P s ts = true → (∀ (j : Nat) t v, ts[j]? = some t → vs[j]? = some v → Value.okWide P W .any base t v) →
    DataW.TrodAll enc P W 0 (fun _ => true) true ts vs ds ps → ∃ x : SDat s, ∀ (nm : Nat → Nat) (n : Nat), satT (intoA nm s x n) (fun _ => none) (GW.all W) vs
 | .nil, [], vs, ds, ps, _, _, h => by
  cases vs with
  | nil => exact ⟨(), fun _ _ => by show satT .nil _ _ _; unfold satT; rfl⟩
  | cons v r => cases ds <;> exact h.elim
 | .cons (.d t) s, T :: r, vs, ds, ps, hb, hok, h => by
  unfold argsB at hb
  simp only [Bool.and_eq_true] at hb
  obtain ⟨⟨hp, ht⟩, hb⟩ := hb
  cases vs with
  | nil => cases ds <;> exact h.elim
  | cons v vs =>
   cases ds with
   | nil => exact h.elim
   | cons d ds =>
    obtain ⟨p, q, ⟨fuel, hd⟩, hr, _⟩ := h
    obtain ⟨x, hx⟩ := trod_rep t hp T fuel _ _ ht hd
    obtain ⟨y, hy⟩ := args_sat s r vs ds q hb (fun j t v h1 h2 => hok (j + 1) t v (by simpa using h1) (by simpa using h2)) hr
    refine ⟨(x, y), fun nm n => ?_⟩
    show satT (.cons (.dat t x) _) _ _ _
    unfold satT
    refine ⟨v, vs, rfl, ?_, hy nm _⟩
    unfold sat
    exact ⟨noAgg_of hp ht (hok 0 T v rfl rfl), hx⟩
 | .nil, _ :: _, _, _, _, hb, _, _ => by cases hb
 | .cons (.d _) _, [], _, _, _, hb, _, _ => by cases hb
 | .d _, _, _, _, _, hb, _, _ => by simp [argsB] at hb
 | .row _, _, _, _, _, hb, _, _ => by simp [argsB] at hb
 | .take _, _, _, _, _, hb, _, _ => by simp [argsB] at hb
 | .spare _, _, _, _, _, hb, _, _ => by simp [argsB] at hb
 | .map _ _, _, _, _, _, hb, _, _ => by simp [argsB] at hb
 | .ob _, _, _, _, _, hb, _, _ => by simp [argsB] at hb
 | .box _, _, _, _, _, hb, _, _ => by simp [argsB] at hb
 | .clos _ _, _, _, _, _, hb, _, _ => by simp [argsB] at hb
 | .nilp, _, _, _, _, hb, _, _ => by simp [argsB] at hb
 | .nils, _, _, _, _, hb, _, _ => by simp [argsB] at hb
 | .cons (.row _) _, _, _, _, _, hb, _, _ => by simp [argsB] at hb
 | .cons (.take _) _, _, _, _, _, hb, _, _ => by simp [argsB] at hb
 | .cons (.spare _) _, _, _, _, _, hb, _, _ => by simp [argsB] at hb
 | .cons (.map _ _) _, _, _, _, _, hb, _, _ => by simp [argsB] at hb
 | .cons (.box _) _, _, _, _, _, hb, _, _ => by simp [argsB] at hb
 | .cons (.clos _ _) _, _, _, _, _, hb, _, _ => by simp [argsB] at hb
 | .cons .nilp _, _, _, _, _, hb, _, _ => by simp [argsB] at hb
 | .cons .nils _, _, _, _, _, hb, _, _ => by simp [argsB] at hb
 | .cons .nil _, _, _, _, _, hb, _, _ => by simp [argsB] at hb
 | .cons (.cons _ _) _, _, _, _, _, hb, _, _ => by simp [argsB] at hb
theorem tab_sat {g : Nat} {k : IntKind} {zs : List Int} {name : String} (h : Lib.TabIs P W name k zs) (hg : P.globalNamed name = some g) (hz : ∀ z ∈ zs, lo k ≤ z ∧ z ≤ hi k) : globOK (.arr zs.length (.int k)) zs (GW.all W) g := by
 have hz0 : ∃ T fz, W.heap[g]? = some (.cells (zs.map fun z => Value.int k z).toArray T fz) := by
  unfold Lib.TabIs at h
  simp only [World.var?, hg, Option.bind_some] at h
  cases ho : W.heap[g]? with
  | none => rw [ho] at h; cases h
  | some ob =>
   rw [ho] at h
   cases ob <;> first | (simp only [Option.some.injEq] at h; subst h; exact ⟨_, _, rfl⟩) | cases h
 refine ⟨⟨zs.map (fun z => .int k z), fun j v hv => ?_, ?_⟩, ?_, ?_⟩
 · rw [List.getElem?_map, Option.map_eq_some_iff] at hv
   obtain ⟨z, hj, rfl⟩ := hv
   have h2 := h.cell hg j (List.getElem?_eq_some_iff.1 hj).1
   rw [List.getD_eq_getElem?_getD, hj] at h2
   rw [Nat.zero_add]
   exact ⟨cell_lt h2, h2⟩
 · unfold Rep
   refine ⟨rfl, by simp [Ty.size], fun i x hx => ?_⟩
   unfold Rep
   have hi' := (List.getElem?_eq_some_iff.1 hx).1
   refine ⟨?_, has_iff.2 (hz _ (List.mem_of_getElem? hx))⟩
   apply List.ext_getElem?
   intro j
   simp only [Ty.size, Nat.mul_one, List.getElem?_take, List.getElem?_drop, List.getElem?_map]
   by_cases hj : j < 1
   · have : j = 0 := by omega
     subst this
     rw [if_pos hj, Nat.add_zero, hx]; rfl
   · rw [if_neg hj]
     cases j with
     | zero => omega
     | succ j => rfl
 · obtain ⟨T, fz, ho⟩ := hz0
   exact (Array.getElem?_eq_some_iff.1 ho).1
 · obtain ⟨T, fz, ho⟩ := hz0
   show W.cell? _ = none
   simp only [World.cell?, ho]
   simp [Ty.size]
theorem tab_of_glob {P : Program} {g : Nat} {k : IntKind} {zs : List Int} {name : String} (hne : zs ≠ []) {G : GW} (h : globOK (.arr zs.length (.int k)) zs G g) (hg : P.globalNamed name = some g) : Lib.TabIs P G.w name k zs := by
 obtain ⟨⟨cells, h1, h2⟩, _, h4⟩ := h
 unfold Rep at h2
 obtain ⟨_, hl, hx⟩ := h2
 have hl : cells.length = zs.length := by simpa [Ty.size] using hl
 have hc : cells = zs.map fun z => Value.int k z := by
  apply List.ext_getElem (by simp [hl])
  intro i hi hi'
  have hiz : i < zs.length := by omega
  have h3 := hx i _ (List.getElem?_eq_getElem hiz)
  unfold Rep at h3
  have h5 := congrArg (fun l : List Value => l[0]?) h3.1
  simp only [Ty.size, Nat.mul_one, List.getElem?_take, List.getElem?_drop, Nat.add_zero] at h5
  simpa [hi] using h5
 have hpos : 0 < zs.length := List.length_pos_iff.2 hne
 have h0 := (h1 0 _ (List.getElem?_eq_getElem (by omega))).2
 have hob : ∃ cs T fz, G.w.heap[g]? = some (.cells cs T fz) := by
  simp only [World.cell?] at h0
  cases ho : G.w.heap[g]? with
  | none => rw [ho] at h0; cases h0
  | some ob =>
   rw [ho] at h0
   cases ob <;> first | exact ⟨_, _, _, rfl⟩ | cases h0
 obtain ⟨cs, T, fz, ho⟩ := hob
 have hat : ∀ i, G.w.cell? ⟨g, i, none⟩ = cs[i]? := fun i => by simp [World.cell?, ho]
 unfold Lib.TabIs
 simp only [World.var?, hg, Option.bind_some, ho]
 congr 1
 apply Array.ext'
 rw [← hc]
 apply List.ext_getElem?
 intro i
 rw [Array.getElem?_toList, ← hat]
 by_cases hi : i < cells.length
 · have := (h1 i _ (List.getElem?_eq_getElem hi)).2
   rw [Nat.zero_add] at this
   rw [this, List.getElem?_eq_getElem hi]
 · rw [List.getElem?_eq_none (by simp; omega)]
   have h4' : G.w.cell? ⟨g, zs.length, none⟩ = none := by simpa [Ty.size] using h4
   rw [hat] at h4' ⊢
   rw [Array.getElem?_eq_none_iff] at h4' ⊢
   omega
theorem laidVars_at : ∀ {l : List (String × DataW Unit)} {ps : List MemPlace}, DataW.LaidVars P W l ps → ∀ x ∈ l, ∃ ps', DataW.LaidVars P W [x] ps'
 | [], _, _, x, hx => by cases hx
 | (n, d) :: l, ps, h, x, hx => by
  obtain ⟨g, t, cs, fuel, p, q, h1, h2, h3, h4, h5, h6⟩ := h
  rcases List.mem_cons.1 hx with rfl | hx
  · exact ⟨_, g, t, cs, fuel, p, [], h1, h2, h3, h4, rfl, rfl⟩
  · exact laidVars_at h5 x hx
theorem tab_of_list {l : List (String × DataW Unit)} (h : laidMet P l W) {name : String} {k : IntKind} {zs : List Int} {i : Nat} (hx : l[i]? = some (name, Lib.tabData k zs)) {g n : Nat} {t e : TypeId} (hg : P.globalNamed name = some g) (hty : (P.globals[g]?).map (·.type) = some t) (ht : P.underlying t = some (.array n e))
    (he : P.underlying e = some (.int k)) (hce : P.cellsOf e = 1) (hct : P.cellsOf t = n) : Lib.TabIs P W name k zs := by
 obtain ⟨ps, h1, _⟩ := h
 obtain ⟨ps', h2⟩ := laidVars_at h1 _ (List.mem_of_getElem? hx)
 obtain ⟨g', t', cs, fuel, p, q, hg', ht', hvar, hd, _, _⟩ := h2
 obtain rfl := Option.some.inj (hg.symm.trans hg')
 obtain rfl := Option.some.inj (hty.symm.trans ht')
 unfold Lib.TabIs
 rw [hvar, ← Lib.cells_of_tab ht he hce hct hd]
theorem laid_plain {l : List (String × DataW Unit)} (h : laidMetH P l W) (he : (l.filter fun x => x.2.handleName?.isSome) = []) : laidMet P l W := by
 unfold laidMetH at h
 rw [he] at h
 exact h
theorem trodAll_len : ∀ {ts : List TypeId} {vs : List Value} {ds : List (DataW H)} {ps : List MemPlace} {base : Nat} {sp : Nat → Bool} {held : Bool}, DataW.TrodAll enc P W base sp held ts vs ds ps → ds.length = ts.length
 | [], [], [], _, _, _, _, _ => rfl
 | _ :: _, _ :: _, _ :: _, _, _, _, _, ⟨_, _, _, h, _⟩ => congrArg (· + 1) (trodAll_len h)
theorem law_row {gl : Glob} {f : FuncId} {fn : Func} {ins : Sh} {pre : SDat ins → Prop} {res : SDat ins → SDat (.cons (.d .bool) .nil)} {nz : Bool} (hS : SpecOK P gl f { ins := ins, pre := pre, alts := [{ outs := .cons (.d .bool) .nil, res := res }], noisy := nz }) (hpre : ∀ x, pre x) (htrue : ∀ x, res x = (true, ()))
    (hins : argsB P ins fn.params.toList = true) (hnn : nn ins = 0) (hl : laidOutB P = true) (hm : mapsRowed P = true)
    (hfull : ((List.range P.types.size).all fun t => match P.underlying t with | some (.slice e) => decide (0 < P.cellsOf e) | _ => true) = true) (hty : (fn.params.toList.all fun t => decide (t < P.types.size)) = true) {tb : TypeId} (hres : fn.resultTypes = #[tb]) (htb : P.underlying tb = some .bool)
    {s : ChangeSpec} (hvars : s.vars = []) (hfn : ∀ ds : List (DataW H), ds.length = fn.params.size → s.fn H ds = { results := [.lit (.bool true)], args := ds }) {apart fresh handsOn : Bool} {base : Nat} {args : Array Value} {ds gs : List (DataW H)} {before : List MemPlace}
    (hgl : ∀ g t y, gl g = some ⟨t, y⟩ → globOK t y (GW.all W) g)
    (hval : ∀ (j : Nat) t v, fn.params[j]? = some t → args[j]? = some v → Value.okWide P W .any base t v) (hW : DataW.Whole enc P fn.params.toList s.vars apart W args.toList ds gs before) :
    Calls P f args W fun e W' => ∃ v, e = .returned v ∧ s.post enc P fn apart fresh handsOn false W args v W' := by
 have hW' := hW
 obtain ⟨p, q, hA, _⟩ := hW
 obtain ⟨x, hx⟩ := args_sat ins fn.params.toList args.toList ds p hins (fun j t v h1 h2 => hval j t v (by simpa using h1) (by simpa using h2)) hA
 obtain ⟨A, hAs, hc⟩ := law_calls hS (x := x) (hpre x) hnn (hx _ _) hgl
 have hAe : A = { outs := .cons (.d .bool) .nil, res := res } := by
  have : some A = some _ := hAs.symm.trans (rfl : _ = some ({ outs := .cons (.d .bool) .nil, res := res } : Alt ins))
  exact Option.some.inj this
 subst hAe
 have hc : Calls P f args W _ := hc
 refine hc.mono fun e W' h => ?_
 obtain ⟨v, rfl, β', G', rfl, hst, hv⟩ := h
 have hv2 : sat (.dat .bool true) β' G' v := by
  have : resA (.cons (.d .bool) .nil) (res x) 0 = .dat .bool true := by rw [htrue x]; rfl
  rw [← this]; exact hv
 unfold sat at hv2
 have h3 := hv2.to_one rfl
 unfold Rep at h3
 simp only [List.cons.injEq, and_true] at h3
 subst h3
 refine ⟨_, rfl, law_post hl hm hfull hW' hvars (fun t ht => ?_) hres htb (hfn ds (by rw [trodAll_len hA]; simp)) hst⟩
 exact of_decide_eq_true (List.all_eq_true.1 hty t ht)
end
def litV : DataW Unit → Value
 | .lit (.int k n) => .int k n
 | .lit (.bool b) => .bool b
 | .lit (.string b) => .string ⟨b.toArray⟩
 | _ => .slice none 0 0
def datV : DataW Unit → Array Value
 | .agg ds => (ds.map litV).toArray
 | d => #[litV d]
def putG (w : World) (g : Nat) (d : DataW Unit) : World := { w with heap := w.heap.modify g fun
 | .cells _ t fz => .cells (datV d) t fz
 | o => o }
end Go.Gv

/- The library's functions that take data and hand back a datum, as contracts. -/
namespace Go.Gv
open Go Go.RowKit
def dataS : Sh → Bool
 | .cons (.d _) s => dataS s
 | .nil => true
 | _ => false
theorem dataS_canon : ∀ {s : Sh}, dataS s = true → ∀ (x : SDat s) (n : Nat) (r : List (Nat × HObj)), intoH (fun k => k) s x n r = r
 | .cons (.d t) s, h, x, n, r => dataS_canon (s := s) h x.2 (n + 0) r
 | .nil, _, _, _, _ => rfl
theorem dataS_back : ∀ {s : Sh}, dataS s = true → ∀ (hp : Nat → HObj) (x : SDat s) (n nx : Nat), fromA hp (backS s) (endAP s x n) nx = some ⟨keepS s x, [], [], nx⟩
 | .cons (.d t) s, h, hp, x, n, nx => by
  simp only [backS, endAP, fromA, toDat_dat]
  rw [dataS_back (s := s) h hp x.2 (n + nn (Sh.d t)) nx]
  rfl
 | .nil, _, _, _, _, _ => rfl
theorem Below.step {G : GW} {hp : Nat → HObj} {β : Asg} (H : HeapOK hp β G) {w' : World} (hb : Below G.w.heap.size G.w w') (hd : G.w.drawn ≤ w'.drawn ∨ G.nz) : Step (fun _ _ => False) (fun _ => False) G { G with w := w' } := {
 os := hb.os
 tape := hb.tape
 output := hb.output
 size := hb.size
 cell := fun b o hlt _ => by
  have e := hb.block b hlt
  exact ⟨by show w'.cell? _ = _; unfold World.cell?; rw [e], by show w'.frozen? _ = _; unfold World.frozen?; rw [e]⟩
 blk := fun b hlt _ _ => hb.block b hlt
 obj := fun b es c _ he => (hb.block b (Array.getElem?_eq_some_iff.1 he).1).trans he
 le := ⟨fun b o hi => ⟨hi, by show w'.cell? _ = _; unfold World.cell?; rw [hb.block b (H.old b o hi)]⟩, fun b hi => ⟨hi, hb.block b (H.oldo_lt hi)⟩⟩
 new := fun _ _ hi => .inl hi
 newo := fun _ hi => .inl hi
 drawn := hd
 nz := rfl }
theorem Below.inv {C : Ctx} {G : GW} {hp : Nat → HObj} {β : Asg} (H : HInv C hp β G) {w' : World} (hb : Below G.w.heap.size G.w w') (hd : G.w.drawn ≤ w'.drawn ∨ G.nz) : HInv C hp β { G with w := w' } := by
 have hst := Below.step H.heap hb hd
 exact H.same hst (fun b o hi => Nat.lt_of_lt_of_le (H.heap.old b o hi) hb.size) (fun b hi => by
  obtain ⟨ob, he, he'⟩ := H.heap.oldo b hi
  exact ⟨ob, (hb.block b (Array.getElem?_eq_some_iff.1 he).1).trans he, he'⟩)
theorem lib_ok {P : Program} {gl : Glob} {f : FuncId} (hf : ∃ fn, P.funcs[f]? = some fn ∧ fn.body.isNone = false ∧ (fn.name == "runtime.NumGoroutine") = false) {ins : Sh} (hd : dataS ins = true) {t : Ty} {pre : SDat ins → Prop} {res : SDat ins → Dat t} (nz : Bool)
    (h : ∀ x, pre x → ∀ (C : Ctx) (β : Asg) (G : GW) (args : List Value), C.glob = gl → HInv C (fun _ => .none) β G → satT (intoA (fun k => k) ins x 0) β G args → Calls P f args.toArray G.w (fun e w' => ∃ v, e = .returned v ∧ Below G.w.heap.size G.w w' ∧ (nz = false → G.w.drawn ≤ w'.drawn) ∧ RepV t (res x) { G with w := w' } v)) :
    SpecOK P gl f { ins := ins, pre := pre, alts := [{ outs := .cons (.d t) .nil, res := fun x => (res x, ()) }], noisy := nz } := by
 refine ⟨hf, fun x hx => ⟨_, rfl, fun C β G args hg hz H ha => ?_⟩⟩
 have hcan : canon ins x = fun _ => .none := by
  unfold canon
  rw [dataS_canon hd]; rfl
 dsimp only at H ha hz ⊢
 rw [hcan] at H
 refine (h x hx C β G args hg H ha).mono fun e w' hr => ?_
 obtain ⟨v, rfl, hb, hdr, hv⟩ := hr
 have hdr : G.w.drawn ≤ w'.drawn ∨ G.nz := by
  cases nz with
  | false => exact .inl (hdr rfl)
  | true => exact .inr (by rw [H.step.nz]; exact hz rfl)
 have hst := Below.step H.heap hb hdr
 refine ⟨⟨fun _ => .none, β, { G with w := w' }, [.dat t (res x)], [v], 0, (res x, ()), [], [], 0, keepS ins x, [], [], 0, rfl, Below.inv H hb hdr, Asg.le_refl β, hst.le, rfl, ?_, fun _ _ => rfl, ?_, ?_, rfl, rfl, rfl, rfl⟩⟩
 · show satT (.cons (.dat t (res x)) .nil) _ _ _
   unfold satT
   refine ⟨v, [], rfl, by unfold sat; exact hv, by unfold satT; rfl⟩
 · show fromA _ (.cons (.d t) .nil) (.cons (.dat t (res x)) .nil) 0 = _
   simp only [fromA, toDat_dat]
   rfl
 · exact dataS_back hd _ x 0 0
end Go.Gv

/- The library's decimal numerals and strings.Join, as contracts. -/
namespace Go.Gv
open Go Go.RowKit Go.Proofs Go.Shelf Go.Sort
theorem below_grow {w : World} {k : Nat} {os : Array Obj} : Below w.heap.size w (grow (w.drewN k) os) :=
 ⟨rfl, rfl, rfl, by simp [grow, World.drewN], fun b hb => by
  show (w.heap ++ os)[b]? = _
  rw [Array.getElem?_append_left hb]⟩
theorem itoa_ok {P : Program} {gl : Glob} {f : FuncId} {g : Nat} {name : String} (hf : ∃ fn, P.funcs[f]? = some fn ∧ fn.body.isNone = false ∧ (fn.name == "runtime.NumGoroutine") = false)
    (hgl : gl g = some ⟨.arr 20 (.int .u64), Lib.pow10Tab⟩) (hgn : P.globalNamed name = some g)
    (h : ∀ (n : Int), -9223372036854775808 ≤ n → n ≤ 9223372036854775807 → ∀ w, Lib.TabIs P w name .u64 Lib.pow10Tab → Calls P f #[.int .i64 n] w fun e w' => e = .returned (.string ⟨(Lib.itoa n).toArray⟩) ∧ ∃ k os, w' = grow (w.drewN k) os) :
    SpecOK P gl f { ins := .cons (.d (.int .i64)) .nil, pre := fun _ => True, alts := [{ outs := .cons (.d .str) .nil, res := fun x => (Lib.itoa x.1, ()) }] } :=
 lib_ok hf rfl false fun x _ C β G args hg H ha => by
  obtain ⟨n, ⟨⟩⟩ := x
  unfold intoA satT at ha
  obtain ⟨v, l, rfl, hs, hl⟩ := ha
  unfold intoA satT at hl
  subst hl
  unfold intoA at hs
  obtain ⟨rfl, hh⟩ := int_sat hs
  have h2 := has_iff.1 hh
  simp only [lo, hi] at h2
  have ht := tab_of_glob (P := P) (zs := Lib.pow10Tab) (by decide) (H.glob g _ _ (by rw [hg]; exact hgl)) hgn
  refine (h n h2.1 h2.2 G.w ht).mono fun e w' hr => ?_
  obtain ⟨rfl, k, os, rfl⟩ := hr
  refine ⟨_, rfl, below_grow, fun _ => Nat.le_add_right _ _, .of_one rfl ⟨rfl, ?_⟩⟩
  have := Lib.itoa_length_le n h2.1 h2.2
  show (Lib.itoa n).length ≤ maxLen
  unfold maxLen; omega
theorem strs_of {G : GW} {xs : List (List UInt8)} {v : Value} (h : RepV (.sl .str) xs G v) : (xs = [] ∧ ∃ c, v = .slice none 0 c) ∨ ∃ b o c sp, v = .slice (some ⟨b, o, sp⟩) xs.length c ∧ xs.length ≤ c ∧ (0 < c → sp = none) ∧ ∀ (j : Nat) x, xs[j]? = some x → G.w.cell? ⟨b, o + j, none⟩ = some (strV x) := by
 obtain ⟨base, cap, e, h1, h2, h3, h4⟩ := h.to_one rfl
 simp only [List.cons.injEq, and_true] at e
 subst e
 cases base with
 | none =>
  have := h3 rfl
  have hx : xs = [] := List.eq_nil_of_length_eq_zero (by omega)
  subst hx
  exact .inl ⟨rfl, cap, rfl⟩
 | some a =>
  obtain ⟨b, o, sp⟩ := a
  refine .inr ⟨b, o, cap, sp, rfl, h1, (h4 _ rfl).1, fun j x hx => ?_⟩
  obtain ⟨cells, hc, hr⟩ := (h4 _ rfl).2 j x hx
  unfold Rep at hr
  have := (hc 0 (strV x) (by rw [hr.1]; rfl)).2
  simpa [Ty.size] using this
theorem join_ok {P : Program} {gl : Glob} {ρ : Ren} (L : Lays.n156 P ρ) (X : Builder.Extra P ρ) (hf : ∃ fn, P.funcs[ρ.f 156]? = some fn ∧ fn.body.isNone = false ∧ (fn.name == "runtime.NumGoroutine") = false) :
    SpecOK P gl (ρ.f 156) { ins := .cons (.d (.sl .str)) (.cons (.d .str) .nil), pre := fun x => (Lib.join x.1 x.2.1).length ≤ 1000000000 ∧ List.length x.1 ≤ 1000000000, alts := [{ outs := .cons (.d .str) .nil, res := fun x => (Lib.join x.1 x.2.1, ()) }], noisy := true } :=
 lib_ok hf rfl true fun x hpre C β G args hg H ha => by
  obtain ⟨xs, sep, ⟨⟩⟩ := x
  unfold intoA satT at ha
  obtain ⟨v, l, rfl, hs, hl⟩ := ha
  unfold intoA satT at hl
  obtain ⟨u, l, rfl, hs2, hl⟩ := hl
  unfold intoA satT at hl
  subst hl
  unfold intoA at hs hs2
  unfold sat at hs
  obtain ⟨rfl, _⟩ := str_sat hs2
  have hlen : (Lib.join xs sep).length ≤ 1000000000 := hpre.1
  have hn : List.length xs ≤ 1000000000 := hpre.2
  have fin : ∀ w', Below G.w.heap.size G.w w' → ∃ v, Ending.returned (.string ⟨(Lib.join xs sep).toArray⟩) = .returned v ∧ Below G.w.heap.size G.w w' ∧ (true = false → G.w.drawn ≤ w'.drawn) ∧ RepV .str (Lib.join xs sep) { G with w := w' } v := fun w' hb =>
   ⟨_, rfl, hb, fun h => Bool.noConfusion h, .of_one rfl ⟨rfl, by unfold maxLen; omega⟩⟩
  rcases strs_of hs with ⟨rfl, c, rfl⟩ | ⟨b, o, c, sp, rfl, h1, h2, h3⟩
  · refine (Any.strings_Join_none L X none c ⟨⟨sep⟩⟩ G.w).mono fun e w' hr => ?_
    obtain ⟨rfl, rfl⟩ := hr
    exact fin _ (Below.refl _ _)
  · by_cases hx : xs = []
    · subst hx
      refine (Any.strings_Join_none L X (some ⟨b, o, sp⟩) c ⟨⟨sep⟩⟩ G.w).mono fun e w' hr => ?_
      obtain ⟨rfl, rfl⟩ := hr
      exact fin _ (Below.refl _ _)
    · have hpos : 0 < xs.length := List.length_pos_iff.2 hx
      have h1' : xs.length ≤ c := h1
      have hsp : sp = none := h2 (Nat.lt_of_lt_of_le hpos h1')
      subst hsp
      have hb : b < G.w.heap.size := by
       have := h3 0 _ (List.getElem?_eq_getElem hpos)
       exact cell_lt this
      have hm : ((xs.map fun x => (⟨⟨x⟩⟩ : ByteArray)).map (·.data.toList)) = xs := by
       rw [List.map_map]
       exact List.map_id _
      have := Any.strings_Join L X b o c (xs.map fun x => (⟨⟨x⟩⟩ : ByteArray)) ⟨⟨sep⟩⟩ G.w (fun j x hj => by
       rw [List.getElem?_map, Option.map_eq_some_iff] at hj
       obtain ⟨y, hy, rfl⟩ := hj
       exact h3 j y hy) hb (by rw [List.length_map]; omega) (by rw [List.length_map]; exact h1) (by rw [hm]; show (Lib.join xs sep).length ≤ _; omega)
      rw [List.length_map, hm] at this
      refine this.mono fun e w' hr => ?_
      obtain ⟨rfl, hb'⟩ := hr
      exact fin w' hb'
end Go.Gv

/- What a sort in place changes in the world; quiet comparisons. -/
namespace Go.Gv
open Go Go.RowKit Go.Proofs Go.Shelf Go.Sort
section
variable {α : Type} [Inhabited α] {enc : α → List Value} {k : Nat} {w : World} {blk off m : Nat} {d dk : Array α} {os : Array Obj}
theorem flat_size : (flatK enc k d).size = d.size * k := by simp [flatK]
theorem sortW_heap (b : Nat) (hb : b < w.heap.size) (hne : b ≠ blk) : (sortWorldK enc k w blk off m dk os).heap[b]? = w.heap[b]? := by
 unfold sortWorldK putRowK putRow mapBlock
 rw [heap_grow_old _ _ (by simpa using hb)]
 show (w.heap.modify blk _)[b]? = _
 rw [Array.getElem?_modify, if_neg (fun e => hne e.symm)]
theorem sortW_size : w.heap.size ≤ (sortWorldK enc k w blk off m dk os).heap.size := by
 unfold sortWorldK putRowK putRow mapBlock grow Go.Sort.ahead
 simp
theorem sortW_cell (b o : Nat) (hb : b < w.heap.size) (hne : b ≠ blk ∨ o < off ∨ off + dk.size * k ≤ o) : (sortWorldK enc k w blk off m dk os).cell? ⟨b, o, none⟩ = w.cell? ⟨b, o, none⟩ := by
 unfold sortWorldK putRowK
 rw [cell?_grow _ _ _ (by show b < (mapBlock _ _ _).heap.size; unfold mapBlock Go.Sort.ahead; simpa using hb)]
 rw [cell?_putRow_other _ _ _ _ _ _ (by rw [flat_size]; exact hne)]
 rfl
theorem sortW_frz (b o : Nat) (hb : b < w.heap.size) : (sortWorldK enc k w blk off m dk os).frozen? ⟨b, o, none⟩ = w.frozen? ⟨b, o, none⟩ := by
 unfold sortWorldK putRowK
 rw [frozen?_grow _ _ _ (by show b < (mapBlock _ _ _).heap.size; unfold mapBlock Go.Sort.ahead; simpa using hb)]
 unfold putRow
 rw [frozen?_mapBlock]
 rfl
theorem sortW_step {hp : Nat → HObj} {β : Asg} {G : GW} (H : HeapOK hp β G) {h : Nat} {v : Value} (hv : β h = some v) (hblk : blk < G.w.heap.size) (hpos : 0 < dk.size * k) (hcell : ∃ u, G.w.cell? ⟨blk, off, none⟩ = some u)
    (hin : ∀ i, off ≤ i → i < off + dk.size * k → fpc (hp h) v blk i) (Fo : Nat → Prop) : Step (fpc (hp h) v) Fo G { G with w := sortWorldK enc k G.w blk off m dk os } := by
 have hob : ∀ ob, G.w.heap[blk]? = some ob → ob.isCells = true := fun ob e => by
  obtain ⟨u, hu⟩ := hcell
  simp only [World.cell?, e] at hu
  cases ob <;> first | rfl | cases hu
 exact {
  os := rfl
  tape := rfl
  output := rfl
  size := sortW_size
  cell := fun b o hb hn => ⟨sortW_cell b o hb (by
   by_cases e : b = blk
   · refine .inr (Classical.byContradiction fun hc => hn ?_)
     subst e
     exact hin o (by omega) (by omega)
   · exact .inl e), sortW_frz b o hb⟩
  blk := fun b hb hn _ => sortW_heap b hb (fun e => hn off (by subst e; exact hin off (Nat.le_refl _) (by omega)))
  obj := fun b es c _ he => by
   refine (sortW_heap b (Array.getElem?_eq_some_iff.1 he).1 (fun e => ?_)).trans he
   subst e
   have := hob _ he
   cases this
  le := ⟨fun b o hi => ⟨hi, sortW_cell b o (H.old b o hi) (by
   by_cases e : b = blk
   · refine .inr (Classical.byContradiction fun hc => ?_)
     subst e
     exact (H.im h v hv b o (hin o (by omega) (by omega))).1 hi
   · exact .inl e)⟩, fun b hi => ⟨hi, by
   obtain ⟨ob, e, e'⟩ := H.oldo b hi
   refine sortW_heap b (Array.getElem?_eq_some_iff.1 e).1 (fun eb => ?_)
   subst eb
   have := hob _ e
   rcases e' with ⟨es, c, rfl⟩ | rfl <;> cases this⟩⟩
  new := fun _ _ hi => .inl hi
  newo := fun _ hi => .inl hi
  drawn := .inl (Nat.le_add_right _ _)
  nz := rfl }
end
theorem grow_of_step {G G' : GW} (h : Step (fun _ _ => False) (fun _ => False) G G') (hz : ¬ G.nz) : ∃ q os', G'.w = grow (G.w.drewN q) os' := by
 have hd := h.drawn.resolve_right hz
 refine ⟨G'.w.drawn - G.w.drawn, G'.w.heap.extract G.w.heap.size, ?_⟩
 have hh : G.w.heap ++ G'.w.heap.extract G.w.heap.size = G'.w.heap := by
  apply Array.ext_getElem?
  intro i
  by_cases hi : i < G.w.heap.size
  · rw [Array.getElem?_append_left hi]
    exact (h.blk i hi (fun _ h => h) (fun h => h)).symm
  · rw [Array.getElem?_append_right (by omega), Array.getElem?_extract]
    have hs := h.size
    by_cases hj : i < G'.w.heap.size
    · rw [if_pos (by omega)]
      congr 1; omega
    · rw [if_neg (by omega), Array.getElem?_eq_none (by omega)]
 obtain ⟨⟨h1, t1, d1, o1, u1⟩, i1, io1, n1⟩ := G
 obtain ⟨⟨h2, t2, d2, o2, u2⟩, i2, io2, n2⟩ := G'
 have e1 := h.os
 have e2 := h.tape
 have e3 := h.output
 dsimp only at e1 e2 e3 hh hd
 subst e1; subst e2; subst e3
 unfold grow World.drewN
 dsimp only
 rw [hh, Nat.add_sub_cancel' hd]
theorem enters_ok {P : Program} {f : FuncId} (h : ∃ fn, P.funcs[f]? = some fn ∧ fn.body.isNone = false ∧ (fn.name == "runtime.NumGoroutine") = false) : ∀ args w, (callFunc f args).run P w = .ok (.enter f args) w := by
 obtain ⟨fn, h1, h2, h3⟩ := h
 cases hb : fn.body with
 | none => rw [hb] at h2; cases h2
 | some c => exact enters_of h1 h3 hb
theorem quiet2 {P : Program} {gl : Glob} {g : FuncId} {t : Ty} {cpre : SDat (.cons (.d t) (.cons (.d t) .nil)) → Prop} {cf : Dat t → Dat t → Int}
    (hcmp : SpecOK P gl g { ins := .cons (.d t) (.cons (.d t) .nil), pre := cpre, alts := [{ outs := .cons (.d (.int .i64)) .nil, res := fun x => (cf x.1 x.2.1, ()) }] })
    {x y : Dat t} (hq : cpre (x, y, ())) {W : World} {im : Nat → Nat → Prop} {imo : Nat → Prop} (hold : ∀ b o, im b o → b < W.heap.size) (holdo : ∀ b, imo b → ∃ o, W.heap[b]? = some o ∧ ImObj o) (hgl : ∀ g t x, gl g = some ⟨t, x⟩ → globOK t x ⟨W, im, imo, False⟩ g)
    {u v : Value} (hu : RepV t x ⟨W, im, imo, False⟩ u) (hv : RepV t y ⟨W, im, imo, False⟩ v) : Calls P g #[u, v] W fun e w' => e = .returned (.int .i64 (cf x y)) ∧ ∃ q os', w' = grow (W.drewN q) os' := by
 let G : GW := ⟨W, im, imo, False⟩
 have H : HInv { G0 := G, F0 := fun _ _ => False, Fo0 := fun _ => False, glob := gl, N := 0 } (fun _ => .none) (fun _ => none) G :=
  ⟨⟨fun _ _ => rfl, fun _ h => (h rfl).elim, fun _ _ h => (by cases h), fun _ _ h => (by cases h), fun _ _ _ _ _ h => (by cases h), fun _ _ _ _ _ h => (by cases h), hold, holdo⟩, Step.refl _ _ _, fun _ _ h => (by cases h), fun _ _ h => (by cases h), hgl⟩
 have hc : callA { ins := .cons (.d t) (.cons (.d t) .nil), pre := cpre, alts := [{ outs := .cons (.d (.int .i64)) .nil, res := fun x => (cf x.1 x.2.1, ()) }] } (fun _ => HObj.none) 0 [.dat t x, .dat t y] = some (cpre (x, y, ()), [wayA false (ins := .cons (.d t) (.cons (.d t) .nil)) { outs := .cons (.d (.int .i64)) .nil, res := fun x => (cf x.1 x.2.1, ()) } (0 = 0) (x, y, ()) [] [] 0 0]) := by
  simp [callA, frzArgs, listA, fromA, toDat_dat, nodupN, preA, waysA, dropW, hasSelf]
 obtain ⟨i, Wy, hi, _, huniq, hcalls⟩ := callA_run hcmp hc hq H (fun _ _ => rfl) rfl (fun h => by cases h) (by
  unfold listA listA listA satT
  refine ⟨u, [v], rfl, by unfold sat; exact hu, ?_⟩
  unfold satT
  refine ⟨v, [], rfl, by unfold sat; exact hv, by unfold satT; rfl⟩)
 have hW := huniq 0 _ rfl (fun h => (h rfl).elim)
 refine hcalls.mono fun e w' hr => ?_
 cases e with
 | panicked _ => exact hr.elim
 | outgrown => exact hr.elim
 | returned r =>
  obtain ⟨β', G', rfl, H', _, _, hs⟩ := hr
  rw [← hW] at hs
  have hs' : sat (.dat (.int .i64) (cf x y)) β' G' r := hs
  obtain ⟨rfl, _⟩ := int_sat hs'
  exact ⟨rfl, grow_of_step H'.step (fun h => h)⟩
end Go.Gv

/- math/bits.Len, as a contract. -/
namespace Go.Gv
open Go Go.RowKit Go.Proofs Go.Shelf Go.Sort
theorem bitsLen_ok {P : Program} {ρ : Ren} {gl : Glob} (L : Lays.n125 P ρ) {fn : Func} {n : Nat} (hf : FnOK P (ρ.f 125) fn n) :
    SpecOK P gl (ρ.f 125) { ins := .cons (.d (.int .u64)) .nil, pre := fun _ => True, alts := [{ outs := .cons (.d (.int .i64)) .nil, res := fun x => ((Lib.bitLen (Int.toNat x.1) : Int), ()) }] } :=
 pure_ok hf rfl rfl fun x _ β G args _ hargs => by
  obtain ⟨m, ⟨⟩⟩ := x
  unfold intoA satT at hargs
  obtain ⟨v, l, rfl, hv, hl⟩ := hargs
  unfold intoA satT at hl
  subst hl
  unfold intoA at hv
  obtain ⟨rfl, hm⟩ := int_sat hv
  have hm := has_iff.1 hm
  simp only [lo, hi] at hm
  refine (Any.bits_Len L m G.w hm.1 hm.2).mono fun e w' hr => ?_
  obtain ⟨rfl, rfl⟩ := hr
  refine ⟨[_], rfl, rfl, ?_⟩
  unfold intoA satT
  refine ⟨_, [], rfl, ?_, by unfold intoA satT; rfl⟩
  unfold intoA
  have h64 := Lib.bitLen_le (Int.toNat m) 64 (Nat.le_refl _) (by have := hm.2; omega)
  exact sat_int (has_iff.2 ⟨by simp only [lo]; omega, by simp only [hi]; omega⟩)
end Go.Gv

/- The library's SortFunc at structs, as a contract: a row is sorted in place. -/
namespace Go.Gv
open Go Go.RowKit Go.Proofs Go.Shelf Go.Sort
theorem pdqF_ok {P : Program} {ρ : Ren} {gl : Glob} (L : SlLaysF0.n14 P ρ) {t : Ty} (hag : t.agg = true) (hts : 0 < t.size) (aE : ∀ w, (isAgg (ρ.t 24)).run P w = .ok true w) (zE : ∀ w, (Go.sizeOf (ρ.t 24)).run P w = .ok t.size w)
    (hf : ∃ fn, P.funcs[ρ.f 14]? = some fn ∧ fn.body.isNone = false ∧ (fn.name == "runtime.NumGoroutine") = false) {g : FuncId} {cpre : SDat (.cons (.d t) (.cons (.d t) .nil)) → Prop} {cf : Dat t → Dat t → Int}
    (hcmp : SpecOK P gl g { ins := .cons (.d t) (.cons (.d t) .nil), pre := cpre, alts := [{ outs := .cons (.d (.int .i64)) .nil, res := fun x => (cf x.1 x.2.1, ()) }] })
    (Q : Dat t → Prop) (hQ : ∀ x y, Q x → Q y → cpre (x, y, ())) (h1 : ∀ x, Q x → ¬ cf x x < 0) (h2 : ∀ x y z, Q x → Q y → Q z → cf x y < 0 → cf y z < 0 → cf x z < 0) (h3 : ∀ x y z, Q x → Q y → Q z → ¬ cf x y < 0 → ¬ cf y z < 0 → ¬ cf x z < 0)
    (pre : List (Dat t) → Prop) (res : List (Dat t) → List (Dat t)) (hpQ : ∀ xs, pre xs → ∀ x ∈ xs, Q x) (hmany : ∀ xs, pre xs → List.length xs < 4611686018427387904) (huniq : ∀ xs ys, pre xs → ys.Perm xs → ys.Pairwise (fun a b => ¬ cf b a < 0) → ys = res xs) :
    SpecOK P gl (ρ.f 14) { ins := .cons (.row t) (.cons (.d (.int .i64)) (.cons (.d (.int .i64)) (.cons (.d (.int .i64)) (.cons (.clos g .nil) .nil)))), pre := fun x => pre x.1 ∧ x.2.1 = 0 ∧ x.2.2.1 = (List.length x.1 : Int) ∧ 0 ≤ x.2.2.2.1 ∧ x.2.2.2.1 ≤ 1000000, alts := [{ outs := .nil, res := fun _ => (), upd := fun x => (res x.1, x.2.1, x.2.2.1, x.2.2.2.1, (), ()) }] } := by
 refine ⟨hf, fun x hpre => ⟨_, rfl, fun C β G args hg hz H hargs => ?_⟩⟩
 obtain ⟨xs, na, nb, nl, ⟨⟩, ⟨⟩⟩ := x
 have e1 : na = (0 : Int) := hpre.2.1
 have e2 : nb = (List.length xs : Int) := hpre.2.2.1
 have l1 : (0 : Int) ≤ nl := hpre.2.2.2.1
 have l2 : @LE.le Int _ nl 1000000 := hpre.2.2.2.2
 replace hpre : pre xs := hpre.1
 subst e1; subst e2
 have key : ∃ v, args = [v, .int .i64 0, .int .i64 (List.length xs : Int), .int .i64 nl, .func (.func g) #[] #[]] ∧ β 0 = some v := by
  unfold intoA satT at hargs
  obtain ⟨v, l, rfl, hv, hl⟩ := hargs
  unfold intoA satT at hl
  obtain ⟨a1, l, rfl, ha1, hl⟩ := hl
  unfold intoA satT at hl
  obtain ⟨a2, l, rfl, ha2, hl⟩ := hl
  unfold intoA satT at hl
  obtain ⟨a3, l, rfl, ha3, hl⟩ := hl
  unfold intoA satT at hl
  obtain ⟨u, l, rfl, hu, hl⟩ := hl
  unfold intoA satT at hl
  subst hl
  unfold intoA at hv hu ha1 ha2 ha3
  obtain ⟨rfl, _⟩ := int_sat ha1
  obtain ⟨rfl, _⟩ := int_sat ha2
  obtain ⟨rfl, _⟩ := int_sat ha3
  unfold sat at hv hu
  obtain ⟨l, rfl, hl⟩ := hu
  unfold intoA satT at hl
  subst hl
  exact ⟨v, rfl, hv.1⟩
 obtain ⟨v, rfl, hbv⟩ := key
 obtain ⟨v', hv', hsat⟩ := H.heap.sat 0 (by show (HObj.row t xs) ≠ _; simp)
 rw [hbv] at hv'; cases hv'
 have hsat : satH (.row t xs) v β G := hsat
 -- how the function comes back
 have fin : ∀ (ys : List (Dat t)), ys = res xs → ∀ G' : GW, HInv C (hset (canon (.cons (.row t) (.cons (.d (.int .i64)) (.cons (.d (.int .i64)) (.cons (.d (.int .i64)) (.cons (.clos g .nil) .nil))))) (xs, (0 : Int), (List.length xs : Int), nl, (), ())) [(0, .row t ys)]) β G' → G.le G' →
     RetOK C false (.cons (.row t) (.cons (.d (.int .i64)) (.cons (.d (.int .i64)) (.cons (.d (.int .i64)) (.cons (.clos g .nil) .nil))))) { outs := .nil, res := fun _ => (), upd := fun x => (res x.1, x.2.1, x.2.2.1, x.2.2.2.1, (), ()) } (xs, (0 : Int), (List.length xs : Int), nl, (), ()) β G (.tuple #[]) G'.w := fun ys hys G' H' hle => by
  refine ⟨⟨_, β, G', [], [], 1, (), [], [], 1, (ys, (0 : Int), (List.length xs : Int), nl, (), ()), [0], [], 1, rfl, H', Asg.le_refl β, hle, rfl, ?_, fun n hn => ?_, rfl, ?_, rfl, rfl, ?_, rfl⟩⟩
  · unfold listA satT; rfl
  · have h0 : ¬ n = 0 := by omega
    simp only [hset, h0, if_false]
    exact canon_out _ _ (by show 1 ≤ n; omega)
  · show fromA _ (.cons (.row t) (.cons (.d (.int .i64)) (.cons (.d (.int .i64)) (.cons (.d (.int .i64)) (.cons (.clos g .nil) .nil))))) (.cons (.ref 0) (.cons (.dat (.int .i64) (0 : Int)) (.cons (.dat (.int .i64) (List.length xs : Int)) (.cons (.dat (.int .i64) nl) (.cons (.clos g .nil) .nil))))) 1 = _
    have hb : Nat.beq g g = true := Nat.beq_refl g
    simp only [fromA, hset, if_true, castDat_self, toDat_dat, hb]
    rfl
  · rw [hys]; rfl
 obtain ⟨base, cap, rfl, c1, c2, c3, c4⟩ := hsat
 by_cases hx : xs = []
 · subst hx
   have he : ([] : List (Dat t)) = res [] := huniq [] [] hpre (List.Perm.refl _) List.Pairwise.nil
   refine (AnyF.pdqsortCmpFunc_none L base cap nl (.func (.func g) #[] #[]) G.w).mono fun e w' hr => ?_
   obtain ⟨rfl, rfl⟩ := hr
   refine fin [] he G ?_ G.le_refl
   exact H.write 0 _ (.row t []) hbv (by simp) rfl rfl (Step.refl _ _ G) ⟨base, cap, rfl, c1, c2, c3, c4⟩ (fun b i hf => hf) (fun b hf => hf)
 · have hlen : 0 < xs.length := List.length_pos_iff.2 hx
   obtain ⟨a, rfl⟩ : ∃ a, base = some a := by
    cases base with
    | none => have := c3 rfl; omega
    | some a => exact ⟨a, rfl⟩
   obtain ⟨hsp, hfree, hel⟩ := c4 a rfl
   obtain ⟨blk, off, spot⟩ := a
   have hsp : spot = none := hsp (by omega)
   subst hsp
   dsimp only at hfree hel
   have hcap : xs.length * t.size ≤ cap * t.size := Nat.mul_le_mul_right _ c1
   have hblk : blk < G.w.heap.size := by
    obtain ⟨⟨u, hu⟩, _⟩ := hfree 0 (Nat.mul_pos (by omega) hts)
    exact cell_lt hu
   let α := {p : Dat t × List Value // Q p.1 ∧ Rep t p.1 G p.2}
   have hex : ∀ i : Fin xs.length, ∃ cells : List Value, (∀ j u, cells[j]? = some u → G.w.cell? ⟨blk, off + i.1 * t.size + j, none⟩ = some u) ∧ Rep t xs[i.1] G cells := fun i => hel i.1 _ (List.getElem?_eq_getElem i.2)
   let cells : Fin xs.length → List Value := fun i => Classical.choose (hex i)
   have hcells := fun i => Classical.choose_spec (hex i)
   let d : Array α := Array.ofFn fun i : Fin xs.length => (⟨(xs[i.1], cells i), hpQ xs hpre _ (List.getElem_mem i.2), (hcells i).2⟩ : α)
   letI : Inhabited α := ⟨⟨(xs[0], cells ⟨0, hlen⟩), hpQ xs hpre _ (List.getElem_mem hlen), (hcells ⟨0, hlen⟩).2⟩⟩
   have hd : d.size = xs.length := by simp [d]
   let enc : α → List Value := fun p => p.1.2
   have hk : ∀ x : α, (enc x).length = t.size := fun x => Rep.length t x.2.2
   have hone : ∀ x : α, ∀ v ∈ enc x, v.oneCell' = true := fun x => Rep.one t x.2.2
   have hgets : ∀ i (hi : i < xs.length), d[i]! = ⟨(xs[i], cells ⟨i, hi⟩), hpQ xs hpre _ (List.getElem_mem hi), (hcells ⟨i, hi⟩).2⟩ := fun i hi => by
    rw [getElem!_pos d i (by omega)]
    simp [d]
   have hH : HoldsK enc t.size G.w blk off d := fun j hj => by
    rw [flat_size, hd] at hj
    have hj1 : j / t.size < xs.length := Nat.div_lt_of_lt_mul (by rw [Nat.mul_comm]; exact hj)
    have hj2 : j % t.size < t.size := Nat.mod_lt _ hts
    refine ⟨?_, (hfree j (by omega)).2⟩
    rw [get_flatK enc t.size d j (by rw [hd]; exact hj), hgets _ hj1]
    show _ = some ((cells ⟨j / t.size, hj1⟩)[j % t.size]!)
    have hl : (cells ⟨j / t.size, hj1⟩).length = t.size := Rep.length t (hcells _).2
    have := (hcells ⟨j / t.size, hj1⟩).1 (j % t.size) _ (List.getElem?_eq_getElem (by rw [hl]; exact hj2))
    rw [getElem!_pos _ _ (by rw [hl]; exact hj2), ← this]
    congr 2
    have := Nat.div_add_mod j t.size
    rw [Nat.mul_comm] at this
    dsimp only
    omega
   have hin : ∀ i, off ≤ i → i < off + d.size * t.size → fpc (.row t xs) (.slice (some ⟨blk, off, none⟩) xs.length cap) blk i := fun i hi1 hi2 => ⟨rfl, hi1, by rw [hd] at hi2; dsimp only; omega⟩
   have hcell0 : ∃ u, G.w.cell? ⟨blk, off, none⟩ = some u := (hfree 0 (Nat.mul_pos (by omega) hts)).1
   have hst : ∀ (m : Nat) (dk : Array α) (os : Array Obj), dk.size = d.size → Step (fpc (.row t xs) (.slice (some ⟨blk, off, none⟩) xs.length cap)) (fpo (.row t xs) (.slice (some ⟨blk, off, none⟩) xs.length cap)) G { G with w := sortWorldK enc t.size G.w blk off m dk os } := fun m dk os hdk =>
    sortW_step (h := 0) H.heap hbv hblk (by rw [hdk, hd]; exact Nat.mul_pos hlen hts) hcell0 (by rw [hdk]; exact hin) _
   have hold : ∀ (m : Nat) (dk : Array α) (os : Array Obj), dk.size = d.size → (∀ b o, G.im b o → b < (sortWorldK enc t.size G.w blk off m dk os).heap.size) ∧ ∀ b, G.imo b → ∃ o, (sortWorldK enc t.size G.w blk off m dk os).heap[b]? = some o ∧ ImObj o := fun m dk os hdk =>
    ⟨fun b o hi => Nat.lt_of_lt_of_le (H.heap.old b o hi) sortW_size, fun b hi => by obtain ⟨o, e, e'⟩ := H.heap.oldo b hi; exact ⟨o, ((hst m dk os hdk).le.2 b hi).2.trans e, e'⟩⟩
   have hcm : CmpLays P g #[] enc t.size (fun x y => cf x.1.1 y.1.1) blk off d.size G.w := fun m os dk hdk x y => by
    have hle : ∀ n : Prop, G.le ⟨sortWorldK enc t.size G.w blk off m dk os, G.im, G.imo, n⟩ := fun n => (hst m dk os hdk).le
    exact quiet2 hcmp (hQ _ _ x.2.1 y.2.1) (hold m dk os hdk).1 (hold m dk os hdk).2 (fun g t x hx => (H.glob g t x (by rw [hg]; exact hx)).mono (hle False)) (.of_agg hag (Rep.mono t x.2.2 (hle False))) (.of_agg hag (Rep.mono t y.2.2 (hle False)))
   have hO : SWO (ltOf fun x y : α => cf x.1.1 y.1.1) := {
    irrefl := fun x => by simpa [ltOf] using Int.not_lt.1 (h1 _ x.2.1)
    trans := fun x y z hxy hyz => by
     simp only [ltOf, decide_eq_true_eq] at *
     exact h2 _ _ _ x.2.1 y.2.1 z.2.1 hxy hyz
    ntrans := fun x y z hxy hyz => by
     simp only [ltOf, decide_eq_false_iff_not] at *
     exact h3 _ _ _ x.2.1 y.2.1 z.2.1 hxy hyz }
   have hsz := hmany xs hpre
   have hrun := AnyQ.pdqsortCmpFunc_all L t.size aE zE enc (fun x y => cf x.1.1 y.1.1) g #[] hO blk off cap d G.w (enters_ok hcmp.1) hcm ⟨hk, hone, hH, hblk⟩ (d.size + 1) 0 d.size nl.toNat d G.w (by omega) rfl (SWK.start hH) (Nat.zero_le _) (Nat.le_refl _) (by rw [hd]; exact hsz) (by omega) (Or.inl rfl)
   rw [hd, Int.toNat_of_nonneg l1] at hrun
   refine hrun.mono fun e w' hr => ?_
   obtain ⟨rfl, n, os, rfl⟩ := hr
   have hps := pdq_sorts (ltOf fun x y : α => cf x.1.1 y.1.1) hO d 0 d.size nl.toNat true true (Nat.zero_le _) (Nat.le_refl _) (Or.inl rfl)
   rw [hd] at hps
   generalize pdq (ltOf fun x y : α => cf x.1.1 y.1.1) d 0 xs.length nl.toNat true true = d' at hps ⊢
   obtain ⟨hp, hs⟩ := hps
   rw [← hd] at hp hs
   have hd' : d'.size = d.size := hp.1
   have hperm : d'.toList.Perm d.toList := by
    have := hp.2.2
    rw [← hd', Array.extract_size, hd', Array.extract_size] at this
    exact this
   have hmap : d.toList.map (fun p => p.1.1) = xs := by
    apply List.ext_getElem
    · simp [hd]
    · intro i h1 h2
      simp [d]
   have hys : d'.toList.map (fun p => p.1.1) = res xs := by
    refine huniq xs _ hpre (by have := hperm.map (fun p : α => p.1.1); rw [hmap] at this; exact this) ?_
    rw [List.pairwise_map, List.pairwise_iff_getElem]
    intro i j hi hj hij
    have hj' : j < d.size := by rw [← hd']; simpa using hj
    have := hs i j (Nat.zero_le _) hij hj'
    rw [getElem!_pos d' j (by omega), getElem!_pos d' i (by omega)] at this
    simp only [ltOf, decide_eq_false_iff_not] at this
    simpa using this
   have hylen : (d'.toList.map (fun p => p.1.1)).length = xs.length := by rw [List.length_map, Array.length_toList, hd', hd]
   refine fin _ hys { G with w := sortWorldK enc t.size G.w blk off n d' os } ?_ (hst n d' os hd').le
   refine H.write (G' := { G with w := sortWorldK enc t.size G.w blk off n d' os }) 0 _ (.row t (d'.toList.map fun p => p.1.1)) hbv (by simp) rfl rfl (hst n d' os hd') ?_ (fun b i hf => hf) (fun b hf => hf)
   have hH' : HoldsK enc t.size (sortWorldK enc t.size G.w blk off n d' os) blk off d' := holdsK_sortWorldK_c enc t.size G.w blk off d d' n os hH hblk hd'
   refine ⟨some ⟨blk, off, none⟩, cap, by rw [hylen], by rw [hylen]; exact c1, c2, fun h => (by cases h), fun a ha => ?_⟩
   cases ha
   refine ⟨fun _ => rfl, fun j hj => ?_, fun i x hix => ?_⟩
   · obtain ⟨⟨u, hu⟩, hfz⟩ := hfree j hj
     refine ⟨?_, (sortW_frz blk (off + j) hblk).trans hfz⟩
     by_cases hjr : j < d'.size * t.size
     · exact ⟨_, (hH' j (by rw [flat_size]; exact hjr)).1⟩
     · exact ⟨u, (sortW_cell blk (off + j) hblk (by omega)).trans hu⟩
   · have hi : i < d'.size := by
      have := (List.getElem?_eq_some_iff.1 hix).1
      simpa using this
     have hxi : x = d'[i].1.1 := by
      have := (List.getElem?_eq_some_iff.1 hix).2
      rw [← this]; simp
     refine ⟨enc d'[i], fun j u hu => ?_, ?_⟩
     · have hj : j < t.size := by rw [← hk d'[i]]; exact (List.getElem?_eq_some_iff.1 hu).1
       have := hH'.cell hi hj
       rw [getElem!_pos d' i hi, getElem!_pos _ j (by rw [hk]; exact hj)] at this
       rw [(List.getElem?_eq_some_iff.1 hu).2] at this
       exact this.1
     · rw [hxi]
       exact Rep.mono t d'[i].2.2 (hst n d' os hd').le
end Go.Gv
