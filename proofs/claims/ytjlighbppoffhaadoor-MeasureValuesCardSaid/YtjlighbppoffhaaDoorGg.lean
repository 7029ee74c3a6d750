/- A verified generator of conditions over the code of the model. Part 7. -/
import Derived.Test.YtjlighbppoffhaaDoorGf
import Derived.Deep.DeepHandedRow
import Derived.Lib.LaidTab
import Derived.Below
set_option linter.all false

/- A law's row: its arguments read as data; a listed table; what the row asks. -/
namespace Go.Gv
open Go

theorem cell_noAgg {P : Program} {w : World} {r : Reach} {base : Nat} {t : TypeId} {v : Value} (h : Cell.okWide P w r base t v) : ∀ c, v ≠ .agg c := by
  rintro c rfl
  unfold Cell.okWide at h
  split at h <;> first | (rename_i h2; cases h2; done) | skip
  rename_i a b
  all_goals (try (cases ‹Value.agg c = _›))
  unfold Cell.ok at h
  split at h <;> first | exact h | (cases ‹Value.agg c = _›)

/-- The parameters' types are those of the shape. -/
def argsB (P : Program) : Sh → List TypeId → Bool
  | .nil, [] => true
  | .cons (.d t) s, T :: r => plainTy t && tym P t T && argsB P s r
  | _, _ => false

theorem noAgg_of {P : Program} {w : World} {r : Reach} {base : Nat} {t : Ty} {T : TypeId} {v : Value} (hp : plainTy t = true) (ht : tym P t T = true) (hok : Value.okWide P w r base T v) : t.agg = true ↔ ∃ c, v = .agg c := by
  cases t with
  | int k => have := und_int ht; unfold Value.okWide at hok; rw [this] at hok; exact ⟨fun h => (by cases h), fun ⟨c, e⟩ => (cell_noAgg hok c e).elim⟩
  | bool => have := und_bool ht; unfold Value.okWide at hok; rw [this] at hok; exact ⟨fun h => (by cases h), fun ⟨c, e⟩ => (cell_noAgg hok c e).elim⟩
  | str => have := und_str ht; unfold Value.okWide at hok; rw [this] at hok; exact ⟨fun h => (by cases h), fun ⟨c, e⟩ => (cell_noAgg hok c e).elim⟩
  | sl t => obtain ⟨e, this, _⟩ := und_sl ht; unfold Value.okWide at hok; rw [this] at hok; exact ⟨fun h => (by cases h), fun ⟨c, e⟩ => (cell_noAgg hok c e).elim⟩
  | nl => simp [tym] at ht
  | cs a b => simp [tym] at ht
  | st fs => obtain ⟨f, this, _⟩ := und_st ht; unfold Value.okWide at hok; rw [this] at hok; exact ⟨fun _ => let ⟨c, e, _⟩ := hok; ⟨c, e⟩, fun _ => rfl⟩
  | arr n t => obtain ⟨e, this, _⟩ := und_arr ht; unfold Value.okWide at hok; rw [this] at hok; exact ⟨fun _ => let ⟨c, e, _⟩ := hok; ⟨c, e⟩, fun _ => rfl⟩
  | mp k v => cases hp
  | pt t => cases hp
  | ot k => cases hp
  | fn => cases hp

section
variable {H : Type} {enc : TypeId × Value → H} {P : Program} {W : World}

/-- What reads as data of the parameters' types holds data of the shape. -/
theorem args_sat {base : Nat} : ∀ (s : Sh) (ts : List TypeId) (vs : List Value) (ds : List (DataW H)) (ps : List MemPlace), argsB P s ts = true → (∀ (j : Nat) t v, ts[j]? = some t → vs[j]? = some v → Value.okWide P W .any base t v) →
    DataW.TrodAll enc P W 0 (fun _ => true) true ts vs ds ps → ∃ x : SDat s, ∀ (nm : Nat → Nat) (n : Nat), satT (intoA nm s x n) (fun _ => none) (GW.all W) vs
  | .nil, [], vs, ds, ps, _, _, h => by
    cases vs with
    | nil => exact ⟨(), fun _ _ => by show satT .nil _ _ _; unfold satT; rfl⟩
    | cons v r => cases ds <;> exact h.elim
  | .cons (.d t) s, T :: r, vs, ds, ps, hb, hok, h => by
    unfold argsB at hb
    simp only [Bool.and_eq_true] at hb
    obtain ⟨⟨hp, ht⟩, hb⟩ := hb
    cases vs with
    | nil => cases ds <;> exact h.elim
    | cons v vs =>
      cases ds with
      | nil => exact h.elim
      | cons d ds =>
        obtain ⟨p, q, ⟨fuel, hd⟩, hr, _⟩ := h
        obtain ⟨x, hx⟩ := trod_rep t hp T fuel _ _ ht hd
        obtain ⟨y, hy⟩ := args_sat s r vs ds q hb (fun j t v h1 h2 => hok (j + 1) t v (by simpa using h1) (by simpa using h2)) hr
        refine ⟨(x, y), fun nm n => ?_⟩
        show satT (.cons (.dat t x) _) _ _ _
        unfold satT
        refine ⟨v, vs, rfl, ?_, hy nm _⟩
        unfold sat
        exact ⟨noAgg_of hp ht (hok 0 T v rfl rfl), hx⟩
  | .nil, _ :: _, _, _, _, hb, _, _ => by cases hb
  | .cons (.d _) _, [], _, _, _, hb, _, _ => by cases hb
  | .d _, _, _, _, _, hb, _, _ => by simp [argsB] at hb
  | .row _, _, _, _, _, hb, _, _ => by simp [argsB] at hb
  | .take _, _, _, _, _, hb, _, _ => by simp [argsB] at hb
  | .spare _, _, _, _, _, hb, _, _ => by simp [argsB] at hb
  | .map _ _, _, _, _, _, hb, _, _ => by simp [argsB] at hb
  | .ob _, _, _, _, _, hb, _, _ => by simp [argsB] at hb
  | .box _, _, _, _, _, hb, _, _ => by simp [argsB] at hb
  | .clos _ _, _, _, _, _, hb, _, _ => by simp [argsB] at hb
  | .nilp, _, _, _, _, hb, _, _ => by simp [argsB] at hb
  | .nils, _, _, _, _, hb, _, _ => by simp [argsB] at hb
  | .cons (.row _) _, _, _, _, _, hb, _, _ => by simp [argsB] at hb
  | .cons (.take _) _, _, _, _, _, hb, _, _ => by simp [argsB] at hb
  | .cons (.spare _) _, _, _, _, _, hb, _, _ => by simp [argsB] at hb
  | .cons (.map _ _) _, _, _, _, _, hb, _, _ => by simp [argsB] at hb
  | .cons (.box _) _, _, _, _, _, hb, _, _ => by simp [argsB] at hb
  | .cons (.clos _ _) _, _, _, _, _, hb, _, _ => by simp [argsB] at hb
  | .cons .nilp _, _, _, _, _, hb, _, _ => by simp [argsB] at hb
  | .cons .nils _, _, _, _, _, hb, _, _ => by simp [argsB] at hb
  | .cons .nil _, _, _, _, _, hb, _, _ => by simp [argsB] at hb
  | .cons (.cons _ _) _, _, _, _, _, hb, _, _ => by simp [argsB] at hb

/-- What a listed table of integers gives. -/
theorem tab_sat {g : Nat} {k : IntKind} {zs : List Int} {name : String} (h : Lib.TabIs P W name k zs) (hg : P.globalNamed name = some g) (hz : ∀ z ∈ zs, lo k ≤ z ∧ z ≤ hi k) : globOK (.arr zs.length (.int k)) zs (GW.all W) g := by
  have hz0 : ∃ T fz, W.heap[g]? = some (.cells (zs.map fun z => Value.int k z).toArray T fz) := by
    unfold Lib.TabIs at h
    simp only [World.var?, hg, Option.bind_some] at h
    cases ho : W.heap[g]? with
    | none => rw [ho] at h; cases h
    | some ob =>
      rw [ho] at h
      cases ob <;> first | (simp only [Option.some.injEq] at h; subst h; exact ⟨_, _, rfl⟩) | cases h
  refine ⟨⟨zs.map (fun z => .int k z), fun j v hv => ?_, ?_⟩, ?_, ?_⟩
  · rw [List.getElem?_map, Option.map_eq_some_iff] at hv
    obtain ⟨z, hj, rfl⟩ := hv
    have h2 := h.cell hg j (List.getElem?_eq_some_iff.1 hj).1
    rw [List.getD_eq_getElem?_getD, hj] at h2
    rw [Nat.zero_add]
    exact ⟨cell_lt h2, h2⟩
  · unfold Rep
    refine ⟨rfl, by simp [Ty.size], fun i x hx => ?_⟩
    unfold Rep
    have hi' := (List.getElem?_eq_some_iff.1 hx).1
    refine ⟨?_, has_iff.2 (hz _ (List.mem_of_getElem? hx))⟩
    apply List.ext_getElem?
    intro j
    simp only [Ty.size, Nat.mul_one, List.getElem?_take, List.getElem?_drop, List.getElem?_map]
    by_cases hj : j < 1
    · have : j = 0 := by omega
      subst this
      rw [if_pos hj, Nat.add_zero, hx]; rfl
    · rw [if_neg hj]
      cases j with
      | zero => omega
      | succ j => rfl
  · obtain ⟨T, fz, ho⟩ := hz0
    exact (Array.getElem?_eq_some_iff.1 ho).1
  · obtain ⟨T, fz, ho⟩ := hz0
    show W.cell? _ = none
    simp only [World.cell?, ho]
    simp [Ty.size]

/-- The other way round. -/
theorem tab_of_glob {P : Program} {g : Nat} {k : IntKind} {zs : List Int} {name : String} (hne : zs ≠ []) {G : GW} (h : globOK (.arr zs.length (.int k)) zs G g) (hg : P.globalNamed name = some g) : Lib.TabIs P G.w name k zs := by
  obtain ⟨⟨cells, h1, h2⟩, _, h4⟩ := h
  unfold Rep at h2
  obtain ⟨_, hl, hx⟩ := h2
  have hl : cells.length = zs.length := by simpa [Ty.size] using hl
  have hc : cells = zs.map fun z => Value.int k z := by
    apply List.ext_getElem (by simp [hl])
    intro i hi hi'
    have hiz : i < zs.length := by omega
    have h3 := hx i _ (List.getElem?_eq_getElem hiz)
    unfold Rep at h3
    have h5 := congrArg (fun l : List Value => l[0]?) h3.1
    simp only [Ty.size, Nat.mul_one, List.getElem?_take, List.getElem?_drop, Nat.add_zero] at h5
    simpa [hi] using h5
  have hpos : 0 < zs.length := List.length_pos_iff.2 hne
  have h0 := (h1 0 _ (List.getElem?_eq_getElem (by omega))).2
  have hob : ∃ cs T fz, G.w.heap[g]? = some (.cells cs T fz) := by
    simp only [World.cell?] at h0
    cases ho : G.w.heap[g]? with
    | none => rw [ho] at h0; cases h0
    | some ob =>
      rw [ho] at h0
      cases ob <;> first | exact ⟨_, _, _, rfl⟩ | cases h0
  obtain ⟨cs, T, fz, ho⟩ := hob
  have hat : ∀ i, G.w.cell? ⟨g, i, none⟩ = cs[i]? := fun i => by simp [World.cell?, ho]
  unfold Lib.TabIs
  simp only [World.var?, hg, Option.bind_some, ho]
  congr 1
  apply Array.ext'
  rw [← hc]
  apply List.ext_getElem?
  intro i
  rw [Array.getElem?_toList, ← hat]
  by_cases hi : i < cells.length
  · have := (h1 i _ (List.getElem?_eq_getElem hi)).2
    rw [Nat.zero_add] at this
    rw [this, List.getElem?_eq_getElem hi]
  · rw [List.getElem?_eq_none (by simp; omega)]
    have h4' : G.w.cell? ⟨g, zs.length, none⟩ = none := by simpa [Ty.size] using h4
    rw [hat] at h4' ⊢
    rw [Array.getElem?_eq_none_iff] at h4' ⊢
    omega

/-- A listed variable, anywhere in the list. -/
theorem laidVars_at : ∀ {l : List (String × DataW Unit)} {ps : List MemPlace}, DataW.LaidVars P W l ps → ∀ x ∈ l, ∃ ps', DataW.LaidVars P W [x] ps'
  | [], _, _, x, hx => by cases hx
  | (n, d) :: l, ps, h, x, hx => by
    obtain ⟨g, t, cs, fuel, p, q, h1, h2, h3, h4, h5, h6⟩ := h
    rcases List.mem_cons.1 hx with rfl | hx
    · exact ⟨_, g, t, cs, fuel, p, [], h1, h2, h3, h4, rfl, rfl⟩
    · exact laidVars_at h5 x hx
theorem tab_of_list {l : List (String × DataW Unit)} (h : laidMet P l W) {name : String} {k : IntKind} {zs : List Int} {i : Nat} (hx : l[i]? = some (name, Lib.tabData k zs)) {g n : Nat} {t e : TypeId} (hg : P.globalNamed name = some g) (hty : (P.globals[g]?).map (·.type) = some t) (ht : P.underlying t = some (.array n e))
    (he : P.underlying e = some (.int k)) (hce : P.cellsOf e = 1) (hct : P.cellsOf t = n) : Lib.TabIs P W name k zs := by
  obtain ⟨ps, h1, _⟩ := h
  obtain ⟨ps', h2⟩ := laidVars_at h1 _ (List.mem_of_getElem? hx)
  obtain ⟨g', t', cs, fuel, p, q, hg', ht', hvar, hd, _, _⟩ := h2
  obtain rfl := Option.some.inj (hg.symm.trans hg')
  obtain rfl := Option.some.inj (hty.symm.trans ht')
  unfold Lib.TabIs
  rw [hvar, ← Lib.cells_of_tab ht he hce hct hd]
theorem laid_plain {l : List (String × DataW Unit)} (h : laidMetH P l W) (he : (l.filter fun x => x.2.handleName?.isSome) = []) : laidMet P l W := by
  unfold laidMetH at h
  rw [he] at h
  exact h

theorem trodAll_len : ∀ {ts : List TypeId} {vs : List Value} {ds : List (DataW H)} {ps : List MemPlace} {base : Nat} {sp : Nat → Bool} {held : Bool}, DataW.TrodAll enc P W base sp held ts vs ds ps → ds.length = ts.length
  | [], [], [], _, _, _, _, _ => rfl
  | _ :: _, _ :: _, _ :: _, _, _, _, _, ⟨_, _, _, h, _⟩ => congrArg (· + 1) (trodAll_len h)

/-- A law whose function answers true: what its row asks of a call. -/
theorem law_row {gl : Glob} {f : FuncId} {fn : Func} {ins : Sh} {pre : SDat ins → Prop} {res : SDat ins → SDat (.cons (.d .bool) .nil)} {nz : Bool} (hS : SpecOK P gl f { ins := ins, pre := pre, alts := [{ outs := .cons (.d .bool) .nil, res := res }], noisy := nz }) (hpre : ∀ x, pre x) (htrue : ∀ x, res x = (true, ()))
    (hins : argsB P ins fn.params.toList = true) (hnn : nn ins = 0) (hl : laidOutB P = true) (hm : mapsRowed P = true)
    (hfull : ((List.range P.types.size).all fun t => match P.underlying t with | some (.slice e) => decide (0 < P.cellsOf e) | _ => true) = true) (hty : (fn.params.toList.all fun t => decide (t < P.types.size)) = true) {tb : TypeId} (hres : fn.resultTypes = #[tb]) (htb : P.underlying tb = some .bool)
    {s : ChangeSpec} (hvars : s.vars = []) (hfn : ∀ ds : List (DataW H), ds.length = fn.params.size → s.fn H ds = { results := [.lit (.bool true)], args := ds }) {apart fresh handsOn : Bool} {base : Nat} {args : Array Value} {ds gs : List (DataW H)} {before : List MemPlace}
    (hgl : ∀ g t y, gl g = some ⟨t, y⟩ → globOK t y (GW.all W) g)
    (hval : ∀ (j : Nat) t v, fn.params[j]? = some t → args[j]? = some v → Value.okWide P W .any base t v) (hW : DataW.Whole enc P fn.params.toList s.vars apart W args.toList ds gs before) :
    Calls P f args W fun e W' => ∃ v, e = .returned v ∧ s.post enc P fn apart fresh handsOn false W args v W' := by
  have hW' := hW
  obtain ⟨p, q, hA, _⟩ := hW
  obtain ⟨x, hx⟩ := args_sat ins fn.params.toList args.toList ds p hins (fun j t v h1 h2 => hval j t v (by simpa using h1) (by simpa using h2)) hA
  obtain ⟨A, hAs, hc⟩ := law_calls hS (x := x) (hpre x) hnn (hx _ _) hgl
  have hAe : A = { outs := .cons (.d .bool) .nil, res := res } := by
    have : some A = some _ := hAs.symm.trans (rfl : _ = some ({ outs := .cons (.d .bool) .nil, res := res } : Alt ins))
    exact Option.some.inj this
  subst hAe
  have hc : Calls P f args W _ := hc
  refine hc.mono fun e W' h => ?_
  obtain ⟨v, rfl, β', G', rfl, hst, hv⟩ := h
  have hv2 : sat (.dat .bool true) β' G' v := by
    have : resA (.cons (.d .bool) .nil) (res x) 0 = .dat .bool true := by rw [htrue x]; rfl
    rw [← this]; exact hv
  unfold sat at hv2
  have h3 := hv2.to_one rfl
  unfold Rep at h3
  simp only [List.cons.injEq, and_true] at h3
  subst h3
  refine ⟨_, rfl, law_post hl hm hfull hW' hvars (fun t ht => ?_) hres htb (hfn ds (by rw [trodAll_len hA]; simp)) hst⟩
  exact of_decide_eq_true (List.all_eq_true.1 hty t ht)
end

/-! ### a world for the witness -/
def litV : DataW Unit → Value
  | .lit (.int k n) => .int k n
  | .lit (.bool b) => .bool b
  | .lit (.string b) => .string ⟨b.toArray⟩
  | _ => .slice none 0 0
def datV : DataW Unit → Array Value
  | .agg ds => (ds.map litV).toArray
  | d => #[litV d]
/-- A package variable's cells laid in a world. -/
def putG (w : World) (g : Nat) (d : DataW Unit) : World := { w with heap := w.heap.modify g fun
  | .cells _ t fz => .cells (datV d) t fz
  | o => o }
end Go.Gv

/- The library's functions that take data and hand back a datum, as contracts. -/
namespace Go.Gv
open Go Go.RowKit

/-- The arguments are data. -/
def dataS : Sh → Bool
  | .cons (.d _) s => dataS s
  | .nil => true
  | _ => false

theorem dataS_canon : ∀ {s : Sh}, dataS s = true → ∀ (x : SDat s) (n : Nat) (r : List (Nat × HObj)), intoH (fun k => k) s x n r = r
  | .cons (.d t) s, h, x, n, r => dataS_canon (s := s) h x.2 (n + 0) r
  | .nil, _, _, _, _ => rfl
theorem dataS_back : ∀ {s : Sh}, dataS s = true → ∀ (hp : Nat → HObj) (x : SDat s) (n nx : Nat), fromA hp (backS s) (endAP s x n) nx = some ⟨keepS s x, [], [], nx⟩
  | .cons (.d t) s, h, hp, x, n, nx => by
    simp only [backS, endAP, fromA, toDat_dat]
    rw [dataS_back (s := s) h hp x.2 (n + nn (Sh.d t)) nx]
    rfl
  | .nil, _, _, _, _, _ => rfl

theorem Below.step {G : GW} {hp : Nat → HObj} {β : Asg} (H : HeapOK hp β G) {w' : World} (hb : Below G.w.heap.size G.w w') (hd : G.w.drawn ≤ w'.drawn ∨ G.nz) : Step (fun _ _ => False) (fun _ => False) G { G with w := w' } := {
  os := hb.os
  tape := hb.tape
  output := hb.output
  size := hb.size
  cell := fun b o hlt _ => by
    have e := hb.block b hlt
    exact ⟨by show w'.cell? _ = _; unfold World.cell?; rw [e], by show w'.frozen? _ = _; unfold World.frozen?; rw [e]⟩
  blk := fun b hlt _ _ => hb.block b hlt
  obj := fun b es c _ he => (hb.block b (Array.getElem?_eq_some_iff.1 he).1).trans he
  le := ⟨fun b o hi => ⟨hi, by show w'.cell? _ = _; unfold World.cell?; rw [hb.block b (H.old b o hi)]⟩, fun b hi => ⟨hi, hb.block b (H.oldo_lt hi)⟩⟩
  new := fun _ _ hi => .inl hi
  newo := fun _ hi => .inl hi
  drawn := hd
  nz := rfl }

theorem Below.inv {C : Ctx} {G : GW} {hp : Nat → HObj} {β : Asg} (H : HInv C hp β G) {w' : World} (hb : Below G.w.heap.size G.w w') (hd : G.w.drawn ≤ w'.drawn ∨ G.nz) : HInv C hp β { G with w := w' } := by
  have hst := Below.step H.heap hb hd
  exact H.same hst (fun b o hi => Nat.lt_of_lt_of_le (H.heap.old b o hi) hb.size) (fun b hi => by
    obtain ⟨ob, he, he'⟩ := H.heap.oldo b hi
    exact ⟨ob, (hb.block b (Array.getElem?_eq_some_iff.1 he).1).trans he, he'⟩)

/-- THE CONTRACT OF A FUNCTION ON DATA. -/
theorem lib_ok {P : Program} {gl : Glob} {f : FuncId} (hf : ∃ fn, P.funcs[f]? = some fn ∧ fn.body.isNone = false ∧ (fn.name == "runtime.NumGoroutine") = false) {ins : Sh} (hd : dataS ins = true) {t : Ty} {pre : SDat ins → Prop} {res : SDat ins → Dat t} (nz : Bool)
    (h : ∀ x, pre x → ∀ (C : Ctx) (β : Asg) (G : GW) (args : List Value), C.glob = gl → HInv C (fun _ => .none) β G → satT (intoA (fun k => k) ins x 0) β G args → Calls P f args.toArray G.w (fun e w' => ∃ v, e = .returned v ∧ Below G.w.heap.size G.w w' ∧ (nz = false → G.w.drawn ≤ w'.drawn) ∧ RepV t (res x) { G with w := w' } v)) :
    SpecOK P gl f { ins := ins, pre := pre, alts := [{ outs := .cons (.d t) .nil, res := fun x => (res x, ()) }], noisy := nz } := by
  refine ⟨hf, fun x hx => ⟨_, rfl, fun C β G args hg hz H ha => ?_⟩⟩
  have hcan : canon ins x = fun _ => .none := by
    unfold canon
    rw [dataS_canon hd]; rfl
  dsimp only at H ha hz ⊢
  rw [hcan] at H
  refine (h x hx C β G args hg H ha).mono fun e w' hr => ?_
  obtain ⟨v, rfl, hb, hdr, hv⟩ := hr
  have hdr : G.w.drawn ≤ w'.drawn ∨ G.nz := by
    cases nz with
    | false => exact .inl (hdr rfl)
    | true => exact .inr (by rw [H.step.nz]; exact hz rfl)
  have hst := Below.step H.heap hb hdr
  refine ⟨⟨fun _ => .none, β, { G with w := w' }, [.dat t (res x)], [v], 0, (res x, ()), [], [], 0, keepS ins x, [], [], 0, rfl, Below.inv H hb hdr, Asg.le_refl β, hst.le, rfl, ?_, fun _ _ => rfl, ?_, ?_, rfl, rfl, rfl, rfl⟩⟩
  · show satT (.cons (.dat t (res x)) .nil) _ _ _
    unfold satT
    refine ⟨v, [], rfl, by unfold sat; exact hv, by unfold satT; rfl⟩
  · show fromA _ (.cons (.d t) .nil) (.cons (.dat t (res x)) .nil) 0 = _
    simp only [fromA, toDat_dat]
    rfl
  · exact dataS_back hd _ x 0 0
end Go.Gv
