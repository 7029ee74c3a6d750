/- A verified generator of conditions over the code of the model. Part 7. -/
import Derived.Test.YtjlighbppoffhaaDoorGf
import Derived.Deep.DeepHandedRow
import Derived.Lib.LaidTab
import Derived.Below
import Derived.Shelf.Strings.OnBuilder
import Derived.Sort.Grow
import Derived.Shelf.Strconv.Itoa3
import Derived.Lib.ItoaLen
import Derived.Shelf.SlSortCmp.InsertionK
import Derived.Shelf.Sort.Plain
set_option linter.all false

/- A law's row: its arguments read as data; a listed table; what the row asks. -/
namespace Go.Gv
open Go
theorem cell_noAgg {P : Program} {w : World} {r : Reach} {base : Nat} {t : TypeId} {v : Value} (h : Cell.okWide P w r base t v) : ∀ c, v ≠ .agg c := by
 rintro c rfl
 unfold Cell.okWide at h
 split at h <;> first | (rename_i h2; cases h2; done) | skip
 rename_i a b
 all_goals (try (cases ‹Value.agg c = _›))
 unfold Cell.ok at h
 split at h <;> first | exact h | (cases ‹Value.agg c = _›)
def argsB (P : Program) : Sh → List TypeId → Bool
 | .nil, [] => true
 | .cons (.d t) s, T :: r => plainTy t && tym P t T && argsB P s r
 | _, _ => false
theorem noAgg_of {P : Program} {w : World} {r : Reach} {base : Nat} {t : Ty} {T : TypeId} {v : Value} (hp : plainTy t = true) (ht : tym P t T = true) (hok : Value.okWide P w r base T v) : t.agg = true ↔ ∃ c, v = .agg c := by
 cases t with
 | int k => have := und_int ht; unfold Value.okWide at hok; rw [this] at hok; exact ⟨fun h => (by cases h), fun ⟨c, e⟩ => (cell_noAgg hok c e).elim⟩
 | bool => have := und_bool ht; unfold Value.okWide at hok; rw [this] at hok; exact ⟨fun h => (by cases h), fun ⟨c, e⟩ => (cell_noAgg hok c e).elim⟩
 | str => have := und_str ht; unfold Value.okWide at hok; rw [this] at hok; exact ⟨fun h => (by cases h), fun ⟨c, e⟩ => (cell_noAgg hok c e).elim⟩
 | sl t => obtain ⟨e, this, _⟩ := und_sl ht; unfold Value.okWide at hok; rw [this] at hok; exact ⟨fun h => (by cases h), fun ⟨c, e⟩ => (cell_noAgg hok c e).elim⟩
 | nl => simp [tym] at ht
 | cs a b => simp [tym] at ht
 | st fs => obtain ⟨f, this, _⟩ := und_st ht; unfold Value.okWide at hok; rw [this] at hok; exact ⟨fun _ => let ⟨c, e, _⟩ := hok; ⟨c, e⟩, fun _ => rfl⟩
 | arr n t => obtain ⟨e, this, _⟩ := und_arr ht; unfold Value.okWide at hok; rw [this] at hok; exact ⟨fun _ => let ⟨c, e, _⟩ := hok; ⟨c, e⟩, fun _ => rfl⟩
 | mp k v => cases hp
 | pt t => cases hp
 | ot k => cases hp
 | fn => cases hp
section
variable {H : Type} {enc : TypeId × Value → H} {P : Program} {W : World}
theorem args_sat {base : Nat} : ∀ (s : Sh) (ts : List TypeId) (vs : List Value) (ds : List (DataW H)) (ps : List MemPlace), argsB P s ts = true → (∀ (j : Nat) t v, ts[j]? = some t → vs[j]? = some v → Value.okWide P W .any base t v) →
    DataW.TrodAll enc P W 0 (fun _ => true) true ts vs ds ps → ∃ x : SDat s, ∀ (nm : Nat → Nat) (n : Nat), satT (intoA nm s x n) (fun _ => none) (GW.all W) vs
 | .nil, [], vs, ds, ps, _, _, h => by
  cases vs with
  | nil => exact ⟨(), fun _ _ => by show satT .nil _ _ _; unfold satT; rfl⟩
  | cons v r => cases ds <;> exact h.elim
 | .cons (.d t) s, T :: r, vs, ds, ps, hb, hok, h => by
  unfold argsB at hb
  simp only [Bool.and_eq_true] at hb
  obtain ⟨⟨hp, ht⟩, hb⟩ := hb
  cases vs with
  | nil => cases ds <;> exact h.elim
  | cons v vs =>
   cases ds with
   | nil => exact h.elim
   | cons d ds =>
    obtain ⟨p, q, ⟨fuel, hd⟩, hr, _⟩ := h
    obtain ⟨x, hx⟩ := trod_rep t hp T fuel _ _ ht hd
    obtain ⟨y, hy⟩ := args_sat s r vs ds q hb (fun j t v h1 h2 => hok (j + 1) t v (by simpa using h1) (by simpa using h2)) hr
    refine ⟨(x, y), fun nm n => ?_⟩
    show satT (.cons (.dat t x) _) _ _ _
    unfold satT
    refine ⟨v, vs, rfl, ?_, hy nm _⟩
    unfold sat
    exact ⟨noAgg_of hp ht (hok 0 T v rfl rfl), hx⟩
 | .nil, _ :: _, _, _, _, hb, _, _ => by cases hb
 | .cons (.d _) _, [], _, _, _, hb, _, _ => by cases hb
 | .d _, _, _, _, _, hb, _, _ => by simp [argsB] at hb
 | .row _, _, _, _, _, hb, _, _ => by simp [argsB] at hb
 | .take _, _, _, _, _, hb, _, _ => by simp [argsB] at hb
 | .spare _, _, _, _, _, hb, _, _ => by simp [argsB] at hb
 | .map _ _, _, _, _, _, hb, _, _ => by simp [argsB] at hb
 | .ob _, _, _, _, _, hb, _, _ => by simp [argsB] at hb
 | .box _, _, _, _, _, hb, _, _ => by simp [argsB] at hb
 | .clos _ _, _, _, _, _, hb, _, _ => by simp [argsB] at hb
 | .nilp, _, _, _, _, hb, _, _ => by simp [argsB] at hb
 | .nils, _, _, _, _, hb, _, _ => by simp [argsB] at hb
 | .cons (.row _) _, _, _, _, _, hb, _, _ => by simp [argsB] at hb
 | .cons (.take _) _, _, _, _, _, hb, _, _ => by simp [argsB] at hb
 | .cons (.spare _) _, _, _, _, _, hb, _, _ => by simp [argsB] at hb
 | .cons (.map _ _) _, _, _, _, _, hb, _, _ => by simp [argsB] at hb
 | .cons (.box _) _, _, _, _, _, hb, _, _ => by simp [argsB] at hb
 | .cons (.clos _ _) _, _, _, _, _, hb, _, _ => by simp [argsB] at hb
 | .cons .nilp _, _, _, _, _, hb, _, _ => by simp [argsB] at hb
 | .cons .nils _, _, _, _, _, hb, _, _ => by simp [argsB] at hb
 | .cons .nil _, _, _, _, _, hb, _, _ => by simp [argsB] at hb
 | .cons (.cons _ _) _, _, _, _, _, hb, _, _ => by simp [argsB] at hb
theorem tab_sat {g : Nat} {k : IntKind} {zs : List Int} {name : String} (h : Lib.TabIs P W name k zs) (hg : P.globalNamed name = some g) (hz : ∀ z ∈ zs, lo k ≤ z ∧ z ≤ hi k) : globOK (.arr zs.length (.int k)) zs (GW.all W) g := by
 have hz0 : ∃ T fz, W.heap[g]? = some (.cells (zs.map fun z => Value.int k z).toArray T fz) := by
  unfold Lib.TabIs at h
  simp only [World.var?, hg, Option.bind_some] at h
  cases ho : W.heap[g]? with
  | none => rw [ho] at h; cases h
  | some ob =>
   rw [ho] at h
   cases ob <;> first | (simp only [Option.some.injEq] at h; subst h; exact ⟨_, _, rfl⟩) | cases h
 refine ⟨⟨zs.map (fun z => .int k z), fun j v hv => ?_, ?_⟩, ?_, ?_⟩
 · rw [List.getElem?_map, Option.map_eq_some_iff] at hv
   obtain ⟨z, hj, rfl⟩ := hv
   have h2 := h.cell hg j (List.getElem?_eq_some_iff.1 hj).1
   rw [List.getD_eq_getElem?_getD, hj] at h2
   rw [Nat.zero_add]
   exact ⟨cell_lt h2, h2⟩
 · unfold Rep
   refine ⟨rfl, by simp [Ty.size], fun i x hx => ?_⟩
   unfold Rep
   have hi' := (List.getElem?_eq_some_iff.1 hx).1
   refine ⟨?_, has_iff.2 (hz _ (List.mem_of_getElem? hx))⟩
   apply List.ext_getElem?
   intro j
   simp only [Ty.size, Nat.mul_one, List.getElem?_take, List.getElem?_drop, List.getElem?_map]
   by_cases hj : j < 1
   · have : j = 0 := by omega
     subst this
     rw [if_pos hj, Nat.add_zero, hx]; rfl
   · rw [if_neg hj]
     cases j with
     | zero => omega
     | succ j => rfl
 · obtain ⟨T, fz, ho⟩ := hz0
   exact (Array.getElem?_eq_some_iff.1 ho).1
 · obtain ⟨T, fz, ho⟩ := hz0
   show W.cell? _ = none
   simp only [World.cell?, ho]
   simp [Ty.size]
theorem tab_of_glob {P : Program} {g : Nat} {k : IntKind} {zs : List Int} {name : String} (hne : zs ≠ []) {G : GW} (h : globOK (.arr zs.length (.int k)) zs G g) (hg : P.globalNamed name = some g) : Lib.TabIs P G.w name k zs := by
 obtain ⟨⟨cells, h1, h2⟩, _, h4⟩ := h
 unfold Rep at h2
 obtain ⟨_, hl, hx⟩ := h2
 have hl : cells.length = zs.length := by simpa [Ty.size] using hl
 have hc : cells = zs.map fun z => Value.int k z := by
  apply List.ext_getElem (by simp [hl])
  intro i hi hi'
  have hiz : i < zs.length := by omega
  have h3 := hx i _ (List.getElem?_eq_getElem hiz)
  unfold Rep at h3
  have h5 := congrArg (fun l : List Value => l[0]?) h3.1
  simp only [Ty.size, Nat.mul_one, List.getElem?_take, List.getElem?_drop, Nat.add_zero] at h5
  simpa [hi] using h5
 have hpos : 0 < zs.length := List.length_pos_iff.2 hne
 have h0 := (h1 0 _ (List.getElem?_eq_getElem (by omega))).2
 have hob : ∃ cs T fz, G.w.heap[g]? = some (.cells cs T fz) := by
  simp only [World.cell?] at h0
  cases ho : G.w.heap[g]? with
  | none => rw [ho] at h0; cases h0
  | some ob =>
   rw [ho] at h0
   cases ob <;> first | exact ⟨_, _, _, rfl⟩ | cases h0
 obtain ⟨cs, T, fz, ho⟩ := hob
 have hat : ∀ i, G.w.cell? ⟨g, i, none⟩ = cs[i]? := fun i => by simp [World.cell?, ho]
 unfold Lib.TabIs
 simp only [World.var?, hg, Option.bind_some, ho]
 congr 1
 apply Array.ext'
 rw [← hc]
 apply List.ext_getElem?
 intro i
 rw [Array.getElem?_toList, ← hat]
 by_cases hi : i < cells.length
 · have := (h1 i _ (List.getElem?_eq_getElem hi)).2
   rw [Nat.zero_add] at this
   rw [this, List.getElem?_eq_getElem hi]
 · rw [List.getElem?_eq_none (by simp; omega)]
   have h4' : G.w.cell? ⟨g, zs.length, none⟩ = none := by simpa [Ty.size] using h4
   rw [hat] at h4' ⊢
   rw [Array.getElem?_eq_none_iff] at h4' ⊢
   omega
theorem laidVars_at : ∀ {l : List (String × DataW Unit)} {ps : List MemPlace}, DataW.LaidVars P W l ps → ∀ x ∈ l, ∃ ps', DataW.LaidVars P W [x] ps'
 | [], _, _, x, hx => by cases hx
 | (n, d) :: l, ps, h, x, hx => by
  obtain ⟨g, t, cs, fuel, p, q, h1, h2, h3, h4, h5, h6⟩ := h
  rcases List.mem_cons.1 hx with rfl | hx
  · exact ⟨_, g, t, cs, fuel, p, [], h1, h2, h3, h4, rfl, rfl⟩
  · exact laidVars_at h5 x hx
theorem tab_of_list {l : List (String × DataW Unit)} (h : laidMet P l W) {name : String} {k : IntKind} {zs : List Int} {i : Nat} (hx : l[i]? = some (name, Lib.tabData k zs)) {g n : Nat} {t e : TypeId} (hg : P.globalNamed name = some g) (hty : (P.globals[g]?).map (·.type) = some t) (ht : P.underlying t = some (.array n e))
    (he : P.underlying e = some (.int k)) (hce : P.cellsOf e = 1) (hct : P.cellsOf t = n) : Lib.TabIs P W name k zs := by
 obtain ⟨ps, h1, _⟩ := h
 obtain ⟨ps', h2⟩ := laidVars_at h1 _ (List.mem_of_getElem? hx)
 obtain ⟨g', t', cs, fuel, p, q, hg', ht', hvar, hd, _, _⟩ := h2
 obtain rfl := Option.some.inj (hg.symm.trans hg')
 obtain rfl := Option.some.inj (hty.symm.trans ht')
 unfold Lib.TabIs
 rw [hvar, ← Lib.cells_of_tab ht he hce hct hd]
theorem laid_plain {l : List (String × DataW Unit)} (h : laidMetH P l W) (he : (l.filter fun x => x.2.handleName?.isSome) = []) : laidMet P l W := by
 unfold laidMetH at h
 rw [he] at h
 exact h
theorem trodAll_len : ∀ {ts : List TypeId} {vs : List Value} {ds : List (DataW H)} {ps : List MemPlace} {base : Nat} {sp : Nat → Bool} {held : Bool}, DataW.TrodAll enc P W base sp held ts vs ds ps → ds.length = ts.length
 | [], [], [], _, _, _, _, _ => rfl
 | _ :: _, _ :: _, _ :: _, _, _, _, _, ⟨_, _, _, h, _⟩ => congrArg (· + 1) (trodAll_len h)
theorem law_row {gl : Glob} {f : FuncId} {fn : Func} {ins : Sh} {pre : SDat ins → Prop} {res : SDat ins → SDat (.cons (.d .bool) .nil)} {nz : Bool} (hS : SpecOK P gl f { ins := ins, pre := pre, alts := [{ outs := .cons (.d .bool) .nil, res := res }], noisy := nz }) (hpre : ∀ x, pre x) (htrue : ∀ x, res x = (true, ()))
    (hins : argsB P ins fn.params.toList = true) (hnn : nn ins = 0) (hl : laidOutB P = true) (hm : mapsRowed P = true)
    (hfull : ((List.range P.types.size).all fun t => match P.underlying t with | some (.slice e) => decide (0 < P.cellsOf e) | _ => true) = true) (hty : (fn.params.toList.all fun t => decide (t < P.types.size)) = true) {tb : TypeId} (hres : fn.resultTypes = #[tb]) (htb : P.underlying tb = some .bool)
    {s : ChangeSpec} (hvars : s.vars = []) (hfn : ∀ ds : List (DataW H), ds.length = fn.params.size → s.fn H ds = { results := [.lit (.bool true)], args := ds }) {apart fresh handsOn : Bool} {base : Nat} {args : Array Value} {ds gs : List (DataW H)} {before : List MemPlace}
    (hgl : ∀ g t y, gl g = some ⟨t, y⟩ → globOK t y (GW.all W) g)
    (hval : ∀ (j : Nat) t v, fn.params[j]? = some t → args[j]? = some v → Value.okWide P W .any base t v) (hW : DataW.Whole enc P fn.params.toList s.vars apart W args.toList ds gs before) :
    Calls P f args W fun e W' => ∃ v, e = .returned v ∧ s.post enc P fn apart fresh handsOn false W args v W' := by
 have hW' := hW
 obtain ⟨p, q, hA, _⟩ := hW
 obtain ⟨x, hx⟩ := args_sat ins fn.params.toList args.toList ds p hins (fun j t v h1 h2 => hval j t v (by simpa using h1) (by simpa using h2)) hA
 obtain ⟨A, hAs, hc⟩ := law_calls hS (x := x) (hpre x) hnn (hx _ _) hgl
 have hAe : A = { outs := .cons (.d .bool) .nil, res := res } := by
  have : some A = some _ := hAs.symm.trans (rfl : _ = some ({ outs := .cons (.d .bool) .nil, res := res } : Alt ins))
  exact Option.some.inj this
 subst hAe
 have hc : Calls P f args W _ := hc
 refine hc.mono fun e W' h => ?_
 obtain ⟨v, rfl, β', G', rfl, hst, hv⟩ := h
 have hv2 : sat (.dat .bool true) β' G' v := by
  have : resA (.cons (.d .bool) .nil) (res x) 0 = .dat .bool true := by rw [htrue x]; rfl
  rw [← this]; exact hv
 unfold sat at hv2
 have h3 := hv2.to_one rfl
 unfold Rep at h3
 simp only [List.cons.injEq, and_true] at h3
 subst h3
 refine ⟨_, rfl, law_post hl hm hfull hW' hvars (fun t ht => ?_) hres htb (hfn ds (by rw [trodAll_len hA]; simp)) hst⟩
 exact of_decide_eq_true (List.all_eq_true.1 hty t ht)
end
def litV : DataW Unit → Value
 | .lit (.int k n) => .int k n
 | .lit (.bool b) => .bool b
 | .lit (.string b) => .string ⟨b.toArray⟩
 | _ => .slice none 0 0
def datV : DataW Unit → Array Value
 | .agg ds => (ds.map litV).toArray
 | d => #[litV d]
def putG (w : World) (g : Nat) (d : DataW Unit) : World := { w with heap := w.heap.modify g fun
 | .cells _ t fz => .cells (datV d) t fz
 | o => o }
end Go.Gv

/- The library's functions that take data and hand back a datum, as contracts. -/
namespace Go.Gv
open Go Go.RowKit
def dataS : Sh → Bool
 | .cons (.d _) s => dataS s
 | .nil => true
 | _ => false
theorem dataS_canon : ∀ {s : Sh}, dataS s = true → ∀ (x : SDat s) (n : Nat) (r : List (Nat × HObj)), intoH (fun k => k) s x n r = r
 | .cons (.d t) s, h, x, n, r => dataS_canon (s := s) h x.2 (n + 0) r
 | .nil, _, _, _, _ => rfl
theorem dataS_back : ∀ {s : Sh}, dataS s = true → ∀ (hp : Nat → HObj) (x : SDat s) (n nx : Nat), fromA hp (backS s) (endAP s x n) nx = some ⟨keepS s x, [], [], nx⟩
 | .cons (.d t) s, h, hp, x, n, nx => by
  simp only [backS, endAP, fromA, toDat_dat]
  rw [dataS_back (s := s) h hp x.2 (n + nn (Sh.d t)) nx]
  rfl
 | .nil, _, _, _, _, _ => rfl
theorem Below.step {G : GW} {hp : Nat → HObj} {β : Asg} (H : HeapOK hp β G) {w' : World} (hb : Below G.w.heap.size G.w w') (hd : G.w.drawn ≤ w'.drawn ∨ G.nz) : Step (fun _ _ => False) (fun _ => False) G { G with w := w' } := {
 os := hb.os
 tape := hb.tape
 output := hb.output
 size := hb.size
 cell := fun b o hlt _ => by
  have e := hb.block b hlt
  exact ⟨by show w'.cell? _ = _; unfold World.cell?; rw [e], by show w'.frozen? _ = _; unfold World.frozen?; rw [e]⟩
 blk := fun b hlt _ _ => hb.block b hlt
 obj := fun b es c _ he => (hb.block b (Array.getElem?_eq_some_iff.1 he).1).trans he
 le := ⟨fun b o hi => ⟨hi, by show w'.cell? _ = _; unfold World.cell?; rw [hb.block b (H.old b o hi)]⟩, fun b hi => ⟨hi, hb.block b (H.oldo_lt hi)⟩⟩
 new := fun _ _ hi => .inl hi
 newo := fun _ hi => .inl hi
 drawn := hd
 nz := rfl }
theorem Below.inv {C : Ctx} {G : GW} {hp : Nat → HObj} {β : Asg} (H : HInv C hp β G) {w' : World} (hb : Below G.w.heap.size G.w w') (hd : G.w.drawn ≤ w'.drawn ∨ G.nz) : HInv C hp β { G with w := w' } := by
 have hst := Below.step H.heap hb hd
 exact H.same hst (fun b o hi => Nat.lt_of_lt_of_le (H.heap.old b o hi) hb.size) (fun b hi => by
  obtain ⟨ob, he, he'⟩ := H.heap.oldo b hi
  exact ⟨ob, (hb.block b (Array.getElem?_eq_some_iff.1 he).1).trans he, he'⟩)
theorem lib_ok {P : Program} {gl : Glob} {f : FuncId} (hf : ∃ fn, P.funcs[f]? = some fn ∧ fn.body.isNone = false ∧ (fn.name == "runtime.NumGoroutine") = false) {ins : Sh} (hd : dataS ins = true) {t : Ty} {pre : SDat ins → Prop} {res : SDat ins → Dat t} (nz : Bool)
    (h : ∀ x, pre x → ∀ (C : Ctx) (β : Asg) (G : GW) (args : List Value), C.glob = gl → HInv C (fun _ => .none) β G → satT (intoA (fun k => k) ins x 0) β G args → Calls P f args.toArray G.w (fun e w' => ∃ v, e = .returned v ∧ Below G.w.heap.size G.w w' ∧ (nz = false → G.w.drawn ≤ w'.drawn) ∧ RepV t (res x) { G with w := w' } v)) :
    SpecOK P gl f { ins := ins, pre := pre, alts := [{ outs := .cons (.d t) .nil, res := fun x => (res x, ()) }], noisy := nz } := by
 refine ⟨hf, fun x hx => ⟨_, rfl, fun C β G args hg hz H ha => ?_⟩⟩
 have hcan : canon ins x = fun _ => .none := by
  unfold canon
  rw [dataS_canon hd]; rfl
 dsimp only at H ha hz ⊢
 rw [hcan] at H
 refine (h x hx C β G args hg H ha).mono fun e w' hr => ?_
 obtain ⟨v, rfl, hb, hdr, hv⟩ := hr
 have hdr : G.w.drawn ≤ w'.drawn ∨ G.nz := by
  cases nz with
  | false => exact .inl (hdr rfl)
  | true => exact .inr (by rw [H.step.nz]; exact hz rfl)
 have hst := Below.step H.heap hb hdr
 refine ⟨⟨fun _ => .none, β, { G with w := w' }, [.dat t (res x)], [v], 0, (res x, ()), [], [], 0, keepS ins x, [], [], 0, rfl, Below.inv H hb hdr, Asg.le_refl β, hst.le, rfl, ?_, fun _ _ => rfl, ?_, ?_, rfl, rfl, rfl, rfl⟩⟩
 · show satT (.cons (.dat t (res x)) .nil) _ _ _
   unfold satT
   refine ⟨v, [], rfl, by unfold sat; exact hv, by unfold satT; rfl⟩
 · show fromA _ (.cons (.d t) .nil) (.cons (.dat t (res x)) .nil) 0 = _
   simp only [fromA, toDat_dat]
   rfl
 · exact dataS_back hd _ x 0 0
end Go.Gv

/- The library's decimal numerals and strings.Join, as contracts. -/
namespace Go.Gv
open Go Go.RowKit Go.Proofs Go.Shelf Go.Sort
theorem below_grow {w : World} {k : Nat} {os : Array Obj} : Below w.heap.size w (grow (w.drewN k) os) :=
 ⟨rfl, rfl, rfl, by simp [grow, World.drewN], fun b hb => by
  show (w.heap ++ os)[b]? = _
  rw [Array.getElem?_append_left hb]⟩
theorem itoa_ok {P : Program} {gl : Glob} {f : FuncId} {g : Nat} {name : String} (hf : ∃ fn, P.funcs[f]? = some fn ∧ fn.body.isNone = false ∧ (fn.name == "runtime.NumGoroutine") = false)
    (hgl : gl g = some ⟨.arr 20 (.int .u64), Lib.pow10Tab⟩) (hgn : P.globalNamed name = some g)
    (h : ∀ (n : Int), -9223372036854775808 ≤ n → n ≤ 9223372036854775807 → ∀ w, Lib.TabIs P w name .u64 Lib.pow10Tab → Calls P f #[.int .i64 n] w fun e w' => e = .returned (.string ⟨(Lib.itoa n).toArray⟩) ∧ ∃ k os, w' = grow (w.drewN k) os) :
    SpecOK P gl f { ins := .cons (.d (.int .i64)) .nil, pre := fun _ => True, alts := [{ outs := .cons (.d .str) .nil, res := fun x => (Lib.itoa x.1, ()) }] } :=
 lib_ok hf rfl false fun x _ C β G args hg H ha => by
  obtain ⟨n, ⟨⟩⟩ := x
  unfold intoA satT at ha
  obtain ⟨v, l, rfl, hs, hl⟩ := ha
  unfold intoA satT at hl
  subst hl
  unfold intoA at hs
  obtain ⟨rfl, hh⟩ := int_sat hs
  have h2 := has_iff.1 hh
  simp only [lo, hi] at h2
  have ht := tab_of_glob (P := P) (zs := Lib.pow10Tab) (by decide) (H.glob g _ _ (by rw [hg]; exact hgl)) hgn
  refine (h n h2.1 h2.2 G.w ht).mono fun e w' hr => ?_
  obtain ⟨rfl, k, os, rfl⟩ := hr
  refine ⟨_, rfl, below_grow, fun _ => Nat.le_add_right _ _, .of_one rfl ⟨rfl, ?_⟩⟩
  have := Lib.itoa_length_le n h2.1 h2.2
  show (Lib.itoa n).length ≤ maxLen
  unfold maxLen; omega
theorem strs_of {G : GW} {xs : List (List UInt8)} {v : Value} (h : RepV (.sl .str) xs G v) : (xs = [] ∧ ∃ c, v = .slice none 0 c) ∨ ∃ b o c sp, v = .slice (some ⟨b, o, sp⟩) xs.length c ∧ xs.length ≤ c ∧ (0 < c → sp = none) ∧ ∀ (j : Nat) x, xs[j]? = some x → G.w.cell? ⟨b, o + j, none⟩ = some (strV x) := by
 obtain ⟨base, cap, e, h1, h2, h3, h4⟩ := h.to_one rfl
 simp only [List.cons.injEq, and_true] at e
 subst e
 cases base with
 | none =>
  have := h3 rfl
  have hx : xs = [] := List.eq_nil_of_length_eq_zero (by omega)
  subst hx
  exact .inl ⟨rfl, cap, rfl⟩
 | some a =>
  obtain ⟨b, o, sp⟩ := a
  refine .inr ⟨b, o, cap, sp, rfl, h1, (h4 _ rfl).1, fun j x hx => ?_⟩
  obtain ⟨cells, hc, hr⟩ := (h4 _ rfl).2 j x hx
  unfold Rep at hr
  have := (hc 0 (strV x) (by rw [hr.1]; rfl)).2
  simpa [Ty.size] using this
theorem join_ok {P : Program} {gl : Glob} {ρ : Ren} (L : Lays.n156 P ρ) (X : Builder.Extra P ρ) (hf : ∃ fn, P.funcs[ρ.f 156]? = some fn ∧ fn.body.isNone = false ∧ (fn.name == "runtime.NumGoroutine") = false) :
    SpecOK P gl (ρ.f 156) { ins := .cons (.d (.sl .str)) (.cons (.d .str) .nil), pre := fun x => (Lib.join x.1 x.2.1).length ≤ 1000000000 ∧ List.length x.1 ≤ 1000000000, alts := [{ outs := .cons (.d .str) .nil, res := fun x => (Lib.join x.1 x.2.1, ()) }], noisy := true } :=
 lib_ok hf rfl true fun x hpre C β G args hg H ha => by
  obtain ⟨xs, sep, ⟨⟩⟩ := x
  unfold intoA satT at ha
  obtain ⟨v, l, rfl, hs, hl⟩ := ha
  unfold intoA satT at hl
  obtain ⟨u, l, rfl, hs2, hl⟩ := hl
  unfold intoA satT at hl
  subst hl
  unfold intoA at hs hs2
  unfold sat at hs
  obtain ⟨rfl, _⟩ := str_sat hs2
  have hlen : (Lib.join xs sep).length ≤ 1000000000 := hpre.1
  have hn : List.length xs ≤ 1000000000 := hpre.2
  have fin : ∀ w', Below G.w.heap.size G.w w' → ∃ v, Ending.returned (.string ⟨(Lib.join xs sep).toArray⟩) = .returned v ∧ Below G.w.heap.size G.w w' ∧ (true = false → G.w.drawn ≤ w'.drawn) ∧ RepV .str (Lib.join xs sep) { G with w := w' } v := fun w' hb =>
   ⟨_, rfl, hb, fun h => Bool.noConfusion h, .of_one rfl ⟨rfl, by unfold maxLen; omega⟩⟩
  rcases strs_of hs with ⟨rfl, c, rfl⟩ | ⟨b, o, c, sp, rfl, h1, h2, h3⟩
  · refine (Any.strings_Join_none L X none c ⟨⟨sep⟩⟩ G.w).mono fun e w' hr => ?_
    obtain ⟨rfl, rfl⟩ := hr
    exact fin _ (Below.refl _ _)
  · by_cases hx : xs = []
    · subst hx
      refine (Any.strings_Join_none L X (some ⟨b, o, sp⟩) c ⟨⟨sep⟩⟩ G.w).mono fun e w' hr => ?_
      obtain ⟨rfl, rfl⟩ := hr
      exact fin _ (Below.refl _ _)
    · have hpos : 0 < xs.length := List.length_pos_iff.2 hx
      have h1' : xs.length ≤ c := h1
      have hsp : sp = none := h2 (Nat.lt_of_lt_of_le hpos h1')
      subst hsp
      have hb : b < G.w.heap.size := by
       have := h3 0 _ (List.getElem?_eq_getElem hpos)
       exact cell_lt this
      have hm : ((xs.map fun x => (⟨⟨x⟩⟩ : ByteArray)).map (·.data.toList)) = xs := by
       rw [List.map_map]
       exact List.map_id _
      have := Any.strings_Join L X b o c (xs.map fun x => (⟨⟨x⟩⟩ : ByteArray)) ⟨⟨sep⟩⟩ G.w (fun j x hj => by
       rw [List.getElem?_map, Option.map_eq_some_iff] at hj
       obtain ⟨y, hy, rfl⟩ := hj
       exact h3 j y hy) hb (by rw [List.length_map]; omega) (by rw [List.length_map]; exact h1) (by rw [hm]; show (Lib.join xs sep).length ≤ _; omega)
      rw [List.length_map, hm] at this
      refine this.mono fun e w' hr => ?_
      obtain ⟨rfl, hb'⟩ := hr
      exact fin w' hb'
end Go.Gv

/- What a sort in place changes in the world; quiet comparisons. -/
namespace Go.Gv
open Go Go.RowKit Go.Proofs Go.Shelf Go.Sort
section
variable {α : Type} [Inhabited α] {enc : α → List Value} {k : Nat} {w : World} {blk off m : Nat} {d dk : Array α} {os : Array Obj}
theorem flat_size : (flatK enc k d).size = d.size * k := by simp [flatK]
theorem sortW_heap (b : Nat) (hb : b < w.heap.size) (hne : b ≠ blk) : (sortWorldK enc k w blk off m dk os).heap[b]? = w.heap[b]? := by
 unfold sortWorldK putRowK putRow mapBlock
 rw [heap_grow_old _ _ (by simpa using hb)]
 show (w.heap.modify blk _)[b]? = _
 rw [Array.getElem?_modify, if_neg (fun e => hne e.symm)]
theorem sortW_size : w.heap.size ≤ (sortWorldK enc k w blk off m dk os).heap.size := by
 unfold sortWorldK putRowK putRow mapBlock grow Go.Sort.ahead
 simp
theorem sortW_cell (b o : Nat) (hb : b < w.heap.size) (hne : b ≠ blk ∨ o < off ∨ off + dk.size * k ≤ o) : (sortWorldK enc k w blk off m dk os).cell? ⟨b, o, none⟩ = w.cell? ⟨b, o, none⟩ := by
 unfold sortWorldK putRowK
 rw [cell?_grow _ _ _ (by show b < (mapBlock _ _ _).heap.size; unfold mapBlock Go.Sort.ahead; simpa using hb)]
 rw [cell?_putRow_other _ _ _ _ _ _ (by rw [flat_size]; exact hne)]
 rfl
theorem sortW_frz (b o : Nat) (hb : b < w.heap.size) : (sortWorldK enc k w blk off m dk os).frozen? ⟨b, o, none⟩ = w.frozen? ⟨b, o, none⟩ := by
 unfold sortWorldK putRowK
 rw [frozen?_grow _ _ _ (by show b < (mapBlock _ _ _).heap.size; unfold mapBlock Go.Sort.ahead; simpa using hb)]
 unfold putRow
 rw [frozen?_mapBlock]
 rfl
theorem sortW_step {hp : Nat → HObj} {β : Asg} {G : GW} (H : HeapOK hp β G) {h : Nat} {v : Value} (hv : β h = some v) (hblk : blk < G.w.heap.size) (hpos : 0 < dk.size * k) (hcell : ∃ u, G.w.cell? ⟨blk, off, none⟩ = some u)
    (hin : ∀ i, off ≤ i → i < off + dk.size * k → fpc (hp h) v blk i) (Fo : Nat → Prop) : Step (fpc (hp h) v) Fo G { G with w := sortWorldK enc k G.w blk off m dk os } := by
 have hob : ∀ ob, G.w.heap[blk]? = some ob → ob.isCells = true := fun ob e => by
  obtain ⟨u, hu⟩ := hcell
  simp only [World.cell?, e] at hu
  cases ob <;> first | rfl | cases hu
 exact {
  os := rfl
  tape := rfl
  output := rfl
  size := sortW_size
  cell := fun b o hb hn => ⟨sortW_cell b o hb (by
   by_cases e : b = blk
   · refine .inr (Classical.byContradiction fun hc => hn ?_)
     subst e
     exact hin o (by omega) (by omega)
   · exact .inl e), sortW_frz b o hb⟩
  blk := fun b hb hn _ => sortW_heap b hb (fun e => hn off (by subst e; exact hin off (Nat.le_refl _) (by omega)))
  obj := fun b es c _ he => by
   refine (sortW_heap b (Array.getElem?_eq_some_iff.1 he).1 (fun e => ?_)).trans he
   subst e
   have := hob _ he
   cases this
  le := ⟨fun b o hi => ⟨hi, sortW_cell b o (H.old b o hi) (by
   by_cases e : b = blk
   · refine .inr (Classical.byContradiction fun hc => ?_)
     subst e
     exact (H.im h v hv b o (hin o (by omega) (by omega))).1 hi
   · exact .inl e)⟩, fun b hi => ⟨hi, by
   obtain ⟨ob, e, e'⟩ := H.oldo b hi
   refine sortW_heap b (Array.getElem?_eq_some_iff.1 e).1 (fun eb => ?_)
   subst eb
   have := hob _ e
   rcases e' with ⟨es, c, rfl⟩ | rfl <;> cases this⟩⟩
  new := fun _ _ hi => .inl hi
  newo := fun _ hi => .inl hi
  drawn := .inl (Nat.le_add_right _ _)
  nz := rfl }
end
theorem grow_of_step {G G' : GW} (h : Step (fun _ _ => False) (fun _ => False) G G') (hz : ¬ G.nz) : ∃ q os', G'.w = grow (G.w.drewN q) os' := by
 have hd := h.drawn.resolve_right hz
 refine ⟨G'.w.drawn - G.w.drawn, G'.w.heap.extract G.w.heap.size, ?_⟩
 have hh : G.w.heap ++ G'.w.heap.extract G.w.heap.size = G'.w.heap := by
  apply Array.ext_getElem?
  intro i
  by_cases hi : i < G.w.heap.size
  · rw [Array.getElem?_append_left hi]
    exact (h.blk i hi (fun _ h => h) (fun h => h)).symm
  · rw [Array.getElem?_append_right (by omega), Array.getElem?_extract]
    have hs := h.size
    by_cases hj : i < G'.w.heap.size
    · rw [if_pos (by omega)]
      congr 1; omega
    · rw [if_neg (by omega), Array.getElem?_eq_none (by omega)]
 obtain ⟨⟨h1, t1, d1, o1, u1⟩, i1, io1, n1⟩ := G
 obtain ⟨⟨h2, t2, d2, o2, u2⟩, i2, io2, n2⟩ := G'
 have e1 := h.os
 have e2 := h.tape
 have e3 := h.output
 dsimp only at e1 e2 e3 hh hd
 subst e1; subst e2; subst e3
 unfold grow World.drewN
 dsimp only
 rw [hh, Nat.add_sub_cancel' hd]
theorem enters_ok {P : Program} {f : FuncId} (h : ∃ fn, P.funcs[f]? = some fn ∧ fn.body.isNone = false ∧ (fn.name == "runtime.NumGoroutine") = false) : ∀ args w, (callFunc f args).run P w = .ok (.enter f args) w := by
 obtain ⟨fn, h1, h2, h3⟩ := h
 cases hb : fn.body with
 | none => rw [hb] at h2; cases h2
 | some c => exact enters_of h1 h3 hb
theorem quiet2 {P : Program} {gl : Glob} {g : FuncId} {t : Ty} {cpre : SDat (.cons (.d t) (.cons (.d t) .nil)) → Prop} {cf : Dat t → Dat t → Int}
    (hcmp : SpecOK P gl g { ins := .cons (.d t) (.cons (.d t) .nil), pre := cpre, alts := [{ outs := .cons (.d (.int .i64)) .nil, res := fun x => (cf x.1 x.2.1, ()) }] })
    {x y : Dat t} (hq : cpre (x, y, ())) {W : World} {im : Nat → Nat → Prop} {imo : Nat → Prop} (hold : ∀ b o, im b o → b < W.heap.size) (holdo : ∀ b, imo b → ∃ o, W.heap[b]? = some o ∧ ImObj o) (hgl : ∀ g t x, gl g = some ⟨t, x⟩ → globOK t x ⟨W, im, imo, False⟩ g)
    {u v : Value} (hu : RepV t x ⟨W, im, imo, False⟩ u) (hv : RepV t y ⟨W, im, imo, False⟩ v) : Calls P g #[u, v] W fun e w' => e = .returned (.int .i64 (cf x y)) ∧ ∃ q os', w' = grow (W.drewN q) os' := by
 let G : GW := ⟨W, im, imo, False⟩
 have H : HInv { G0 := G, F0 := fun _ _ => False, Fo0 := fun _ => False, glob := gl, N := 0 } (fun _ => .none) (fun _ => none) G :=
  ⟨⟨fun _ _ => rfl, fun _ h => (h rfl).elim, fun _ _ h => (by cases h), fun _ _ h => (by cases h), fun _ _ _ _ _ h => (by cases h), fun _ _ _ _ _ h => (by cases h), hold, holdo⟩, Step.refl _ _ _, fun _ _ h => (by cases h), fun _ _ h => (by cases h), hgl⟩
 have hc : callA { ins := .cons (.d t) (.cons (.d t) .nil), pre := cpre, alts := [{ outs := .cons (.d (.int .i64)) .nil, res := fun x => (cf x.1 x.2.1, ()) }] } (fun _ => HObj.none) 0 [.dat t x, .dat t y] = some (cpre (x, y, ()), [wayA false (ins := .cons (.d t) (.cons (.d t) .nil)) { outs := .cons (.d (.int .i64)) .nil, res := fun x => (cf x.1 x.2.1, ()) } (0 = 0) (x, y, ()) [] [] 0 0]) := by
  simp [callA, frzArgs, listA, fromA, toDat_dat, nodupN, preA, waysA]
 obtain ⟨i, Wy, hi, _, huniq, hcalls⟩ := callA_run hcmp hc hq H (fun _ _ => rfl) rfl (fun h => by cases h) (by
  unfold listA listA listA satT
  refine ⟨u, [v], rfl, by unfold sat; exact hu, ?_⟩
  unfold satT
  refine ⟨v, [], rfl, by unfold sat; exact hv, by unfold satT; rfl⟩)
 have hW := huniq 0 _ rfl (fun h => (h rfl).elim)
 refine hcalls.mono fun e w' hr => ?_
 cases e with
 | panicked _ => exact hr.elim
 | outgrown => exact hr.elim
 | returned r =>
  obtain ⟨β', G', rfl, H', _, _, hs⟩ := hr
  rw [← hW] at hs
  have hs' : sat (.dat (.int .i64) (cf x y)) β' G' r := hs
  obtain ⟨rfl, _⟩ := int_sat hs'
  exact ⟨rfl, grow_of_step H'.step (fun h => h)⟩
end Go.Gv

/- The library's Sort at elements of one cell, as a contract: a row is sorted in place. -/
namespace Go.Gv
open Go Go.RowKit Go.Proofs Go.Shelf Go.Sort
section
variable {P : Program} {ρ : Ren}
set_option maxHeartbeats 2000000 in
theorem insS_none (L : Lays.n302 P ρ) (p : Option Addr) (cap : Nat) (w : World) :
    Calls P (ρ.f 302) #[.slice p 0 cap, .int .i64 0, .int .i64 0] w fun e w' => e = .returned (.tuple #[]) ∧ w' = w := by
 have mixed := L.mixed; have t0 := L.t0; have a0 := L.a0; have z0 := L.z0; have v0 := L.v0; have t3 := L.t3; have a3 := L.a3; have z3 := L.z3; have v3 := L.v3; have t4 := L.t4; have a4 := L.a4; have z4 := L.z4; have v4 := L.v4; have t9 := L.t9; have a9 := L.a9; have z9 := L.z9; have v9 := L.v9; have t31 := L.t31; have a31 := L.a31; have z31 := L.z31; have v31 := L.v31
 go_enter L.f302, Body.n302_ntmps ρ
 go_wp2
 refine wp_loop_rounds 1 ?_
 rw [rounds_succ]
 go_wp2
 go_end0
 exact ⟨rfl, rfl⟩
set_option maxHeartbeats 2000000 in
theorem pdqS_none (L : Lays.n258 P ρ) (p : Option Addr) (cap : Nat) (lim : Int) (w : World) :
    Calls P (ρ.f 258) #[.slice p 0 cap, .int .i64 0, .int .i64 0, .int .i64 lim] w fun e w' => e = .returned (.tuple #[]) ∧ w' = w := by
 have mixed := L.mixed; have t0 := L.t0; have a0 := L.a0; have z0 := L.z0; have v0 := L.v0; have t3 := L.t3; have a3 := L.a3; have z3 := L.z3; have v3 := L.v3; have t4 := L.t4; have a4 := L.a4; have z4 := L.z4; have v4 := L.v4; have t9 := L.t9; have a9 := L.a9; have z9 := L.z9; have v9 := L.v9; have t31 := L.t31; have a31 := L.a31; have z31 := L.z31; have v31 := L.v31; have t131 := L.t131; have a131 := L.a131; have z131 := L.z131; have v131 := L.v131; have t182 := L.t182; have a182 := L.a182; have z182 := L.z182; have v182 := L.v182; have t183 := L.t183; have a183 := L.a183; have z183 := L.z183; have v183 := L.v183
 have e302 : ∀ args w, (callFunc (ρ.f 302) args).run P w = .ok (.enter (ρ.f 302) args) w := enters_of L.f302 (by kernel_rfl) rfl
 have hi := fun W => insS_none (P := P) (ρ := ρ) { L with } p cap W
 go_enter L.f258, Body.n258_ntmps ρ
 go_wp2
 refine wp_loop_rounds 1 ?_
 rw [rounds_succ]
 go_wp2_with (go_at_fn (ρ.f 302); refine (hi _).mono ?_; rintro e w' ⟨rfl, rfl⟩)
 (try simp only [Exit.inBlock, Exit.then]); refine bodyPost_ret (results_none rfl _ _ _) rfl ?_
 exact ⟨rfl, rfl⟩
set_option maxHeartbeats 2000000 in
theorem sortS_none (L : Lays.n190 P ρ) (p : Option Addr) (cap : Nat) (w : World) :
    Calls P (ρ.f 190) #[.slice p 0 cap] w fun e w' => e = .returned (.tuple #[]) ∧ w' = w := by
 have mixed := L.mixed; have t0 := L.t0; have a0 := L.a0; have z0 := L.z0; have v0 := L.v0; have t3 := L.t3; have a3 := L.a3; have z3 := L.z3; have v3 := L.v3; have t9 := L.t9; have a9 := L.a9; have z9 := L.z9; have v9 := L.v9; have t31 := L.t31; have a31 := L.a31; have z31 := L.z31; have v31 := L.v31; have t46 := L.t46; have a46 := L.a46; have z46 := L.z46; have v46 := L.v46
 have e125 : ∀ args w, (callFunc (ρ.f 125) args).run P w = .ok (.enter (ρ.f 125) args) w := enters_of L.f125 (by kernel_rfl) rfl
 have e258 : ∀ args w, (callFunc (ρ.f 258) args).run P w = .ok (.enter (ρ.f 258) args) w := enters_of L.f258 (by kernel_rfl) rfl
 have hp := fun lim W => pdqS_none (P := P) (ρ := ρ) { L with } p cap lim W
 have hl : ∀ W, Calls P (ρ.f 125) #[.int .u64 0] W fun e w' => e = .returned (.int .i64 (Lib.bitLen 0 : Nat)) ∧ w' = W := fun W => Any.bits_Len (P := P) (ρ := ρ) { L with } 0 W (by omega) (by omega)
 go_enter L.f190, Body.n190_ntmps ρ
 go_wp2_with (first | (go_at_fn (ρ.f 125); refine (hl _).mono ?_; rintro e w' ⟨rfl, rfl⟩) | (go_at_fn (ρ.f 258); refine (hp _ _).mono ?_; rintro e w' ⟨rfl, rfl⟩))
 go_end0
 exact ⟨rfl, rfl⟩
end
section
variable {α : Type} [Inhabited α]
theorem flat_one (enc : α → Value) (d : Array α) : flatK (fun x => [enc x]) 1 d = d.map enc := by
 apply Array.ext
 · simp [flatK]
 · intro i h1 h2
   have hi : i < d.size := by simpa using h2
   have := get_flatK (fun x => [enc x]) 1 d i (by omega)
   rw [getElem!_pos _ i h1] at this
   rw [this, Nat.div_one, Nat.mod_one, getElem!_pos d i hi]
   simp
theorem putRow_one (enc : α → Value) (w : World) (blk off : Nat) (d : Array α) : putRow enc w blk off d = putRowK (fun x => [enc x]) 1 w blk off d := by
 unfold putRowK putRow
 rw [flat_one]
 congr 1
 unfold putCells
 funext c
 apply Array.ext
 · simp
 · intro i h1 h2
   simp only [Array.getElem_mapIdx, Array.size_map]
   split
   · rename_i h
     rw [getElem!_pos d _ (by omega), getElem!_pos _ _ (by simp; omega)]
     simp
   · rfl
end
theorem sort1_ok {P : Program} {f : FuncId} {gl : Glob} {t : Ty} [inst : Inhabited (Dat t)] (hts : t.size = 1) (enc : Dat t → Value) (B : Dat t → Prop) (hr : ∀ x G cells, Rep t x G cells ↔ cells = [enc x] ∧ B x)
    (hf : ∃ fn, P.funcs[f]? = some fn ∧ fn.body.isNone = false ∧ (fn.name == "runtime.NumGoroutine") = false) (srt : List (Dat t) → List (Dat t)) (hperm : ∀ xs, (srt xs).Perm xs)
    (hnone : ∀ p cap w, Calls P f #[.slice p 0 cap] w fun e w' => e = .returned (.tuple #[]) ∧ w' = w) (hnil : srt [] = [])
    (hrun : ∀ (blk off cap : Nat) (xs : List (Dat t)) (w : World), Go.Sort.Holds enc w blk off xs.toArray → blk < w.heap.size → xs.length < 4611686018427387904 → Calls P f #[.slice (some ⟨blk, off, none⟩) xs.length cap] w fun e w' => e = .returned (.tuple #[]) ∧ ∃ n os, w' = grow (putRow enc (Sort.ahead w n) blk off (srt xs).toArray) os) :
    SpecOK P gl f { ins := .cons (.row t) .nil, pre := fun x => List.length x.1 < 4611686018427387904, alts := [{ outs := .nil, res := fun _ => (), upd := fun x => (srt x.1, ()) }] } := by
 refine ⟨hf, fun x hpre => ⟨_, rfl, fun C β G args hg hz H hargs => ?_⟩⟩
 obtain ⟨xs, ⟨⟩⟩ := x
 replace hpre : List.length xs < 4611686018427387904 := hpre
 have key : ∃ v, args = [v] ∧ β 0 = some v := by
  unfold intoA satT at hargs
  obtain ⟨v, l, rfl, hv, hl⟩ := hargs
  unfold intoA satT at hl
  subst hl
  unfold intoA at hv
  unfold sat at hv
  exact ⟨v, rfl, hv.1⟩
 obtain ⟨v, rfl, hbv⟩ := key
 obtain ⟨v', hv', hsat⟩ := H.heap.sat 0 (by show (HObj.row t xs) ≠ _; simp)
 rw [hbv] at hv'; cases hv'
 have hsat : satH (.row t xs) v β G := hsat
 have fin : ∀ G' : GW, HInv C (hset (canon (.cons (.row t) .nil) (xs, ())) [(0, .row t (srt xs))]) β G' → G.le G' →
     RetOK C false (.cons (.row t) .nil) { outs := .nil, res := fun _ => (), upd := fun x => (srt x.1, ()) } (xs, ()) β G (.tuple #[]) G'.w := fun G' H' hle => by
  refine ⟨⟨_, β, G', [], [], 1, (), [], [], 1, (srt xs, ()), [0], [], 1, rfl, H', Asg.le_refl β, hle, rfl, ?_, fun n hn => ?_, rfl, ?_, rfl, rfl, rfl, rfl⟩⟩
  · unfold listA satT; rfl
  · have h0 : ¬ n = 0 := by omega
    simp only [hset, h0, if_false]
    exact canon_out _ _ (by show 1 ≤ n; omega)
  · show fromA _ (.cons (.row t) .nil) (.cons (.ref 0) .nil) 1 = _
    simp only [fromA, hset, if_true, castDat_self]
    rfl
 obtain ⟨base, cap, rfl, c1, c2, c3, c4⟩ := hsat
 by_cases hx : xs = []
 · subst hx
   refine (hnone base cap G.w).mono fun e w' hr => ?_
   obtain ⟨rfl, rfl⟩ := hr
   refine fin G ?_ G.le_refl
   rw [hnil]
   exact H.write 0 _ (.row t []) hbv (by simp) rfl rfl (Step.refl _ _ G) ⟨base, cap, rfl, c1, c2, c3, c4⟩ (fun b i hf => hf) (fun b hf => hf)
 · have hlen : 0 < xs.length := List.length_pos_iff.2 hx
   obtain ⟨a, rfl⟩ : ∃ a, base = some a := by
    cases base with
    | none => have := c3 rfl; omega
    | some a => exact ⟨a, rfl⟩
   obtain ⟨hsp, hfree, hel⟩ := c4 a rfl
   obtain ⟨blk, off, spot⟩ := a
   have hsp : spot = none := hsp (by omega)
   subst hsp
   dsimp only at hfree hel
   have hblk : blk < G.w.heap.size := by
    obtain ⟨⟨u, hu⟩, _⟩ := hfree 0 (by rw [hts]; omega)
    exact cell_lt hu
   have hcell : ∀ i (hi : i < xs.length), G.w.cell? ⟨blk, off + i, none⟩ = some (enc xs[i]) ∧ B xs[i] := fun i hi => by
    obtain ⟨cells, h1, h2⟩ := hel i _ (List.getElem?_eq_getElem hi)
    obtain ⟨rfl, hB⟩ := (hr _ _ _).1 h2
    have := h1 0 _ rfl
    rw [hts] at this
    exact ⟨by simpa using this, hB⟩
   have hH : Go.Sort.Holds enc G.w blk off xs.toArray := fun j hj => by
    have hj' : j < xs.length := by simpa using hj
    rw [getElem!_pos _ j hj]
    refine ⟨by simpa using (hcell j hj').1, (hfree j (by rw [hts]; omega)).2⟩
   have hp := hperm xs
   have hpl : (srt xs).length = xs.length := hp.length_eq
   have hin : ∀ i, off ≤ i → i < off + (srt xs).toArray.size * 1 → fpc (.row t xs) (.slice (some ⟨blk, off, none⟩) xs.length cap) blk i := fun i hi1 hi2 => ⟨rfl, hi1, by
    have : (srt xs).toArray.size = xs.length := by simpa using hpl
    rw [this] at hi2; dsimp only; rw [hts]; omega⟩
   have hcell0 : ∃ u, G.w.cell? ⟨blk, off, none⟩ = some u := (hfree 0 (by rw [hts]; omega)).1
   refine (hrun blk off cap xs G.w hH hblk hpre).mono fun e w' hr' => ?_
   obtain ⟨rfl, n, os, rfl⟩ := hr'
   have hw : grow (putRow enc (Sort.ahead G.w n) blk off (srt xs).toArray) os = sortWorldK (fun x => [enc x]) 1 G.w blk off n (srt xs).toArray os := by unfold sortWorldK; rw [putRow_one]
   rw [hw]
   have hst : Step (fpc (.row t xs) (.slice (some ⟨blk, off, none⟩) xs.length cap)) (fpo (.row t xs) (.slice (some ⟨blk, off, none⟩) xs.length cap)) G { G with w := sortWorldK (fun x => [enc x]) 1 G.w blk off n (srt xs).toArray os } :=
    sortW_step (h := 0) H.heap hbv hblk (by simp; omega) hcell0 hin _
   refine fin { G with w := sortWorldK (fun x => [enc x]) 1 G.w blk off n (srt xs).toArray os } ?_ hst.le
   refine H.write (G' := { G with w := sortWorldK (fun x => [enc x]) 1 G.w blk off n (srt xs).toArray os }) 0 _ (.row t (srt xs)) hbv (by simp) rfl rfl hst ?_ (fun b i hf => hf) (fun b hf => hf)
   have hHK : HoldsK (fun x => [enc x]) 1 G.w blk off xs.toArray := by
    unfold HoldsK
    rw [flat_one]
    intro j hj
    have hj' : j < xs.length := by simpa using hj
    have := hH j (by simpa using hj')
    rw [getElem!_pos _ j (by simpa using hj')] at this
    rw [getElem!_pos _ j hj]
    simpa using this
   have hH' : HoldsK (fun x => [enc x]) 1 (sortWorldK (fun x => [enc x]) 1 G.w blk off n (srt xs).toArray os) blk off (srt xs).toArray := holdsK_sortWorldK_c (fun x => [enc x]) 1 G.w blk off xs.toArray (srt xs).toArray n os hHK hblk (by simpa using hpl)
   refine ⟨some ⟨blk, off, none⟩, cap, by rw [hpl], by rw [hpl]; exact c1, c2, fun h => (by cases h), fun a ha => ?_⟩
   cases ha
   refine ⟨fun _ => rfl, fun j hj => ?_, fun i x hix => ?_⟩
   · obtain ⟨⟨u, hu⟩, hfz⟩ := hfree j hj
     refine ⟨?_, (sortW_frz blk (off + j) hblk).trans hfz⟩
     by_cases hjr : j < xs.length
     · exact ⟨_, (hH' j (by rw [flat_size]; simp; omega)).1⟩
     · exact ⟨u, (sortW_cell blk (off + j) hblk (.inr (.inr (by simp; omega)))).trans hu⟩
   · have hi : i < (srt xs).length := (List.getElem?_eq_some_iff.1 hix).1
     have hxi : (srt xs)[i] = x := (List.getElem?_eq_some_iff.1 hix).2
     have hBx : B x := by
      have hm : x ∈ xs := hp.mem_iff.1 (hxi ▸ List.getElem_mem hi)
      obtain ⟨j, hj, rfl⟩ := List.getElem_of_mem hm
      exact (hcell j hj).2
     refine ⟨[enc x], fun j u hu => ?_, (hr _ _ _).2 ⟨rfl, hBx⟩⟩
     have hj : j = 0 := by
      have := (List.getElem?_eq_some_iff.1 hu).1
      simp at this; exact this
     subst hj
     have := hH'.cell (i := i) (c := 0) (by simpa using hi) (by omega)
     rw [getElem!_pos _ i (by simpa using hi)] at this
     simp only [List.getElem_toArray, hxi] at this
     rw [hts]
     simp only [List.getElem?_cons_zero, Option.some.injEq] at hu
     subst hu
     exact this.1
theorem sortS_ok {P : Program} {ρ : Ren} {gl : Glob} (L : Lays.n190 P ρ) (hf : ∃ fn, P.funcs[ρ.f 190]? = some fn ∧ fn.body.isNone = false ∧ (fn.name == "runtime.NumGoroutine") = false) :
    SpecOK P gl (ρ.f 190) { ins := .cons (.row .str) .nil, pre := fun x => List.length x.1 < 4611686018427387904, alts := [{ outs := .nil, res := fun _ => (), upd := fun x => (List.mergeSort x.1 (fun (x y : List UInt8) => decide (x ≤ y)), ()) }] } :=
 sort1_ok (t := .str) (inst := instInhabitedList) rfl encStr (fun x => List.length x ≤ maxLen) (fun x G cells => by unfold Rep; exact Iff.rfl) hf (fun xs => List.mergeSort xs (fun (x y : List UInt8) => decide (x ≤ y))) (fun xs => List.mergeSort_perm xs _) (fun p cap w => sortS_none L p cap w) (List.mergeSort_nil)
  (fun blk off cap xs w h1 h2 h3 => Any.slices_Sort_string L blk off cap xs w h1 h2 h3)
end Go.Gv
