/- The law MatchStrict answers true for all matches, records and numbers.
   On the condition that the row names: the listed package-level variables hold what the program's text lays in them (the card ties that). -/
import Derived.Test.YtganngkllfpgiaaDoorGg
import Derived.Test.YtganngkllfpgiaaDoorCards
import Derived.Test.YtganngkllfpgiaaDoorTie
import Derived.Test.YtganngkllfpgiaaDoorSb
import Derived.Test.YtganngkllfpgiaaDoorL20e
import Derived.WalkKit
set_option linter.all false
namespace Go.Proofs.YtganngkllfpgiaaDoor.MatchStrict
open Go Go.Gv Go.RowKit
open Go.Proofs

theorem own : ownKnob Tryd.prog.godebug = none := by kernel_rfl

theorem noHandles : (Rows.matchStrictRow.laid.filter fun x => x.2.handleName?.isSome) = [] := by kernel_rfl
noncomputable def nm0 : String := (Rows.matchStrictRow.laid.map (fun p => p.1)).getD 0 Tryd.f8.name
theorem at0 : Rows.matchStrictRow.laid[0]? = some (nm0, .agg [.lit (.int .i64 0), .lit (.int .i64 1)]) := by kernel_rfl
theorem g0 : Tryd.prog.globalNamed nm0 = some 0 := by kernel_rfl
theorem gt0 : (Tryd.prog.globals[0]?).map (fun x => x.type) = some 41 := by kernel_rfl
theorem ty0 : tym Tryd.prog (.st (.cs (.int .i64) (.cs (.int .i64) .nl))) 41 = true := by kernel_rfl
noncomputable def nm1 : String := (Rows.matchStrictRow.laid.map (fun p => p.1)).getD 1 Tryd.f8.name
theorem at1 : Rows.matchStrictRow.laid[1]? = some (nm1, .agg [.lit (.int .i64 1), .lit (.int .i64 1)]) := by kernel_rfl
theorem g1 : Tryd.prog.globalNamed nm1 = some 1 := by kernel_rfl
theorem gt1 : (Tryd.prog.globals[1]?).map (fun x => x.type) = some 41 := by kernel_rfl
theorem ty1 : tym Tryd.prog (.st (.cs (.int .i64) (.cs (.int .i64) .nl))) 41 = true := by kernel_rfl
theorem tabs {W : World} (h : laidMetH Tryd.prog Rows.matchStrictRow.laid W) : ∀ g t y, glob g = some ⟨t, y⟩ → globOK t y (GW.all W) g := by
  intro g t y hg
  have hp := laid_plain h noHandles
  match g, hg with
  | 0, hg =>
    cases hg
    exact pair_of_list hp at0 g0 gt0 ty0 (by decide) (by decide)
  | 1, hg =>
    cases hg
    exact pair_of_list hp at1 g1 gt1 ty1 (by decide) (by decide)
  | _ + 2, hg => cases hg

theorem fnTrue {H : Type} : ∀ ds : List (DataW H), ds.length = Tryd.f8.params.size → Rows.matchStrictSpec.fn H ds = { results := [.lit (.bool true)], args := ds }
  | [_, _, _, _, _], _ => rfl
  | [], h => by rw [Tryd.params8] at h; simp at h
  | [_], h => by rw [Tryd.params8] at h; simp at h
  | [_, _], h => by rw [Tryd.params8] at h; simp at h
  | [_, _, _], h => by rw [Tryd.params8] at h; simp at h
  | [_, _, _, _], h => by rw [Tryd.params8] at h; simp at h
  | _ :: _ :: _ :: _ :: _ :: _ :: _, h => by rw [Tryd.params8] at h; simp at h
theorem full : ((List.range Tryd.prog.types.size).all fun t => match Tryd.prog.underlying t with | some (.slice e) => decide (0 < Tryd.prog.cellsOf e) | _ => true) = true := by kernel_rfl
theorem laidOut : laidOutB Tryd.prog = true := by kernel_rfl
theorem mapsR : mapsRowed Tryd.prog = true := by kernel_rfl
theorem argsOK : argsB Tryd.prog S_law20_MatchStrict.ins Tryd.f8.params.toList = true := by kernel_rfl
theorem typesOK : (Tryd.f8.params.toList.all fun t => decide (t < Tryd.prog.types.size)) = true := by kernel_rfl

set_option maxRecDepth 100000 in
theorem contract (H : Type) (enc : TypeId × Value → H) (W : World) (base : Nat) (args : Array Value) (ds gs : List (DataW H)) (before : List MemPlace)
    (hval : ∀ (j : Nat) t v, Tryd.f8.params[j]? = some t → args[j]? = some v → Value.okWide Tryd.prog W .any base t v)
    (hW : DataW.Whole enc Tryd.prog Tryd.f8.params.toList Rows.matchStrictSpec.vars false W args.toList ds gs before) (hL : laidMetH Tryd.prog Rows.matchStrictRow.laid W) :
    Calls Tryd.prog 8 args W fun e W' => ∃ v, e = .returned v ∧ Rows.matchStrictSpec.post enc Tryd.prog Tryd.f8 false true false false W args v W' :=
  law_row (tb := 4) ok_law20_MatchStrict (fun _ => trivial) (fun _ => rfl) argsOK rfl laidOut mapsR full typesOK rfl Tryd.underlying4 rfl fnTrue (tabs hL) hval hW

/-- A world for the witness: the settled one, the listed variables holding what the text lays. -/
noncomputable def laidWorld (os : Os) : World := putG (putG (World.holding Tryd.prog os ⟨#[], #[], []⟩) 0 Rows.laid_cleanse_measure_none) 1 Rows.laid_cleanse_measure_full
def zeros : Array Value := #[.agg #[.string ⟨#[]⟩, .int .i64 0, .int .i64 0, .slice none 0 0], .agg #[.int .i64 0, .string ⟨#[]⟩, .string ⟨#[]⟩, .int .i64 0, .int .i64 0, .slice none 0 0], .agg #[.int .i64 0, .string ⟨#[]⟩, .string ⟨#[]⟩, .int .i64 0, .int .i64 0, .slice none 0 0], .int .u8 0, .int .u8 0]
theorem laid_met (os : Os) : laidMet Tryd.prog Rows.matchStrictRow.laid ((laidWorld os).forCall (fun _ _ => 0) ⟨#[], zeros, []⟩).memory :=
  laidMet_of_run' 8 (by kernel_rfl) (by kernel_rfl)
theorem reads (os : Os) {H : Type} (enc : TypeId × Value → H) : (DataW.whole enc Tryd.prog ((laidWorld os).forCall (fun _ _ => 0) ⟨#[], zeros, []⟩).memory Tryd.f8.params.toList Rows.matchStrictSpec.vars false zeros.toList 8).isSome = true := by kernel_rfl

set_option maxRecDepth 100000 in
theorem lifted (os : Os) (started : os.Started) (H : Type) (enc : TypeId × Value → H) (F : Stop.Interp) :
    ReturnsInHanded {} Tryd.checked os 8 .any ((OpenSpec.ofChange Rows.matchStrictSpec).preRow enc Tryd.prog Tryd.f8 Rows.matchStrictRow.domain false Rows.matchStrictRow.laid) (((OpenSpec.ofChange Rows.matchStrictSpec).at F).post enc Tryd.prog Tryd.f8 false true false false) := by
  obtain ⟨x, hx⟩ := Option.isSome_iff_exists.1 (reads os enc)
  refine returnsInHanded_of_row (C := Tryd.checked) (s := OpenSpec.ofChange Rows.matchStrictSpec) own started (by kernel_rfl) Tryd.func8
    (witness_row_at (enc := enc) (C := Tryd.checked) false (laidWorld os) zeros rfl (by kernel_rfl) (by kernel_rfl) (by kernel_rfl)
      (OpenSpec.preRow_of_cond 8 hx rfl (fun k hk => by cases hk) (by kernel_rfl) (laid_met os))) ?_
  intro W base args ds gs before hval hW _ _ _ hL _ _
  exact contract H enc W base args ds gs before hval hW hL

theorem said : Rows.MatchStrictSaid :=
  OpenClaim.holds_of_cond 8 Tryd.f8 rfl rfl rfl rfl rfl rfl rfl ⟨rfl, rfl, rfl, rfl, rfl⟩ rfl rfl rfl rfl rfl (by kernel_rfl) Tryd.func8 (by kernel_rfl)
    (of_decide_eq_true (by kernel_rfl)) (by unfold Func.isWrapper; first | (rw [if_pos (by decide +kernel)]; kernel_rfl) | (rw [if_neg (by decide +kernel)]; exact ⟨rfl, rfl⟩))
    (fun os started H enc _ F => by rw [OpenClaim.pre_eq_preRow]; exact lifted os started H enc F)


theorem plain (f : FuncId) (fn : Func) (hf : Tryd.pinned.checked.prog.funcNamed Rows.matchStrictRow.func = some f) (hfn : Tryd.pinned.checked.prog.funcs[f]? = some fn) :
    false = Tryd.pinned.checked.prog.looks [] ∧ ∀ (j : Nat) t, fn.params[j]? = some t → Tryd.pinned.checked.prog.wantsStandIn t = false := by
  obtain rfl : f = 8 := Option.some.inj ((show Tryd.prog.funcNamed Rows.matchStrictRow.func = some 8 by kernel_rfl).symm.trans hf) |>.symm
  obtain rfl : fn = Tryd.f8 := (Option.some.inj (Tryd.func8.symm.trans hfn)).symm
  refine ⟨by kernel_rfl, fun j t ht => ?_⟩
  have hall : (Tryd.f8.params.toList.all fun t => !Tryd.prog.wantsStandIn t) = true := by kernel_rfl
  have hm : t ∈ Tryd.f8.params.toList := by simpa using Array.mem_of_getElem? ht
  have h1 := List.all_eq_true.1 hall t hm
  show Tryd.prog.wantsStandIn t = false
  simpa using h1
end Go.Proofs.YtganngkllfpgiaaDoor.MatchStrict
namespace Go.Proofs.YtganngkllfpgiaaDoor
open Go
theorem matchStrict_card : Rows.MatchStrictCardSaid :=
  Claim7.holds_tied_plain_at .later [] _ _ _ _ MatchStrict.said (fun _ h => by cases h) (by kernel_rfl) (fun _ h => by cases h) matchStrict_row_tie rfl ⟨rfl, rfl⟩ (by kernel_rfl) rfl MatchStrict.plain (by kernel_rfl)
#print axioms matchStrict_card
end Go.Proofs.YtganngkllfpgiaaDoor
