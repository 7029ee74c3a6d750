/- The law MatchMatchesReference answers true for all matches, records and pairs.
   On the condition that the row names: the listed package-level variables hold what the program's text lays in them (the card ties that). -/
import Derived.Test.YtganngkllfpgiaaGreatDoorGg
import Derived.Test.YtganngkllfpgiaaGreatDoorCards
import Derived.Test.YtganngkllfpgiaaGreatDoorTie
import Derived.Test.YtganngkllfpgiaaGreatDoorSb
import Derived.Test.YtganngkllfpgiaaGreatDoorL20g
import Derived.WalkKit
set_option linter.all false
namespace Go.Proofs.YtganngkllfpgiaaGreatDoor.MatchMatchesReference
open Go Go.Gv Go.RowKit
open Go.Proofs

theorem own : ownKnob Tryz.prog.godebug = none := by kernel_rfl

theorem noHandles : (Rows.matchMatchesReferenceRow.laid.filter fun x => x.2.handleName?.isSome) = [] := by kernel_rfl
noncomputable def nm0 : String := (Rows.matchMatchesReferenceRow.laid.map (fun p => p.1)).getD 0 Tryz.f3.name
theorem at0 : Rows.matchMatchesReferenceRow.laid[0]? = some (nm0, .agg [.lit (.int .i64 0), .lit (.int .i64 1)]) := by kernel_rfl
theorem g0 : Tryz.prog.globalNamed nm0 = some 0 := by kernel_rfl
theorem gt0 : (Tryz.prog.globals[0]?).map (fun x => x.type) = some 61 := by kernel_rfl
theorem ty0 : tym Tryz.prog (.st (.cs (.int .i64) (.cs (.int .i64) .nl))) 61 = true := by kernel_rfl
noncomputable def nm1 : String := (Rows.matchMatchesReferenceRow.laid.map (fun p => p.1)).getD 1 Tryz.f3.name
theorem at1 : Rows.matchMatchesReferenceRow.laid[1]? = some (nm1, .agg [.lit (.int .i64 1), .lit (.int .i64 1)]) := by kernel_rfl
theorem g1 : Tryz.prog.globalNamed nm1 = some 1 := by kernel_rfl
theorem gt1 : (Tryz.prog.globals[1]?).map (fun x => x.type) = some 61 := by kernel_rfl
theorem ty1 : tym Tryz.prog (.st (.cs (.int .i64) (.cs (.int .i64) .nl))) 61 = true := by kernel_rfl
theorem tabs {W : World} (h : laidMetH Tryz.prog Rows.matchMatchesReferenceRow.laid W) : ∀ g t y, glob g = some ⟨t, y⟩ → globOK t y (GW.all W) g := by
  intro g t y hg
  have hp := laid_plain h noHandles
  match g, hg with
  | 0, hg =>
    cases hg
    exact pair_of_list hp at0 g0 gt0 ty0 (by decide) (by decide)
  | 1, hg =>
    cases hg
    exact pair_of_list hp at1 g1 gt1 ty1 (by decide) (by decide)
  | _ + 2, hg => cases hg

theorem fnTrue {H : Type} : ∀ ds : List (DataW H), ds.length = Tryz.f3.params.size → Rows.matchMatchesReferenceSpec.fn H ds = { results := [.lit (.bool true)], args := ds }
  | [_, _, _], _ => rfl
  | [], h => by rw [Tryz.params3] at h; simp at h
  | [_], h => by rw [Tryz.params3] at h; simp at h
  | [_, _], h => by rw [Tryz.params3] at h; simp at h
  | _ :: _ :: _ :: _ :: _, h => by rw [Tryz.params3] at h; simp at h
theorem full : ((List.range Tryz.prog.types.size).all fun t => match Tryz.prog.underlying t with | some (.slice e) => decide (0 < Tryz.prog.cellsOf e) | _ => true) = true := by kernel_rfl
theorem laidOut : laidOutB Tryz.prog = true := by kernel_rfl
theorem mapsR : mapsRowed Tryz.prog = true := by kernel_rfl
theorem argsOK : argsB Tryz.prog S_law20_MatchMatchesReference.ins Tryz.f3.params.toList = true := by kernel_rfl
theorem typesOK : (Tryz.f3.params.toList.all fun t => decide (t < Tryz.prog.types.size)) = true := by kernel_rfl

set_option maxRecDepth 100000 in
theorem contract (H : Type) (enc : TypeId × Value → H) (W : World) (base : Nat) (args : Array Value) (ds gs : List (DataW H)) (before : List MemPlace)
    (hval : ∀ (j : Nat) t v, Tryz.f3.params[j]? = some t → args[j]? = some v → Value.okWide Tryz.prog W .any base t v)
    (hW : DataW.Whole enc Tryz.prog Tryz.f3.params.toList Rows.matchMatchesReferenceSpec.vars false W args.toList ds gs before) (hL : laidMetH Tryz.prog Rows.matchMatchesReferenceRow.laid W) :
    Calls Tryz.prog 3 args W fun e W' => ∃ v, e = .returned v ∧ Rows.matchMatchesReferenceSpec.post enc Tryz.prog Tryz.f3 false true false false W args v W' :=
  law_row (tb := 4) ok_law20_MatchMatchesReference (fun _ => trivial) (fun _ => rfl) argsOK rfl laidOut mapsR full typesOK rfl Tryz.underlying4 rfl fnTrue (tabs hL) hval hW

/-- A world for the witness: the settled one, the listed variables holding what the text lays. -/
noncomputable def laidWorld (os : Os) : World := putG (putG (World.holding Tryz.prog os ⟨#[], #[], []⟩) 0 Rows.laid_cleanse_measure_none) 1 Rows.laid_cleanse_measure_full
def zeros : Array Value := #[.slice none 0 0, .slice none 0 0, .slice none 0 0]
theorem laid_met (os : Os) : laidMet Tryz.prog Rows.matchMatchesReferenceRow.laid ((laidWorld os).forCall (fun _ _ => 0) ⟨#[], zeros, []⟩).memory :=
  laidMet_of_run' 8 (by kernel_rfl) (by kernel_rfl)
theorem reads (os : Os) {H : Type} (enc : TypeId × Value → H) : (DataW.whole enc Tryz.prog ((laidWorld os).forCall (fun _ _ => 0) ⟨#[], zeros, []⟩).memory Tryz.f3.params.toList Rows.matchMatchesReferenceSpec.vars false zeros.toList 8).isSome = true := by kernel_rfl

set_option maxRecDepth 100000 in
theorem lifted (os : Os) (started : os.Started) (H : Type) (enc : TypeId × Value → H) (F : Stop.Interp) :
    ReturnsInHanded {} Tryz.checked os 3 .any ((OpenSpec.ofChange Rows.matchMatchesReferenceSpec).preRow enc Tryz.prog Tryz.f3 Rows.matchMatchesReferenceRow.domain false Rows.matchMatchesReferenceRow.laid) (((OpenSpec.ofChange Rows.matchMatchesReferenceSpec).at F).post enc Tryz.prog Tryz.f3 false true false false) := by
  obtain ⟨x, hx⟩ := Option.isSome_iff_exists.1 (reads os enc)
  refine returnsInHanded_of_row (C := Tryz.checked) (s := OpenSpec.ofChange Rows.matchMatchesReferenceSpec) own started (by kernel_rfl) Tryz.func3
    (witness_row_at (enc := enc) (C := Tryz.checked) false (laidWorld os) zeros rfl (by kernel_rfl) (by kernel_rfl) (by kernel_rfl)
      (OpenSpec.preRow_of_cond 8 hx rfl (fun k hk => by cases hk) (by kernel_rfl) (laid_met os))) ?_
  intro W base args ds gs before hval hW _ _ _ hL _ _
  exact contract H enc W base args ds gs before hval hW hL

theorem said : Rows.MatchMatchesReferenceSaid :=
  OpenClaim.holds_of_cond 3 Tryz.f3 rfl rfl rfl rfl rfl rfl rfl ⟨rfl, rfl, rfl, rfl, rfl⟩ rfl rfl rfl rfl rfl (by kernel_rfl) Tryz.func3 (by kernel_rfl)
    (of_decide_eq_true (by kernel_rfl)) (by unfold Func.isWrapper; first | (rw [if_pos (by decide +kernel)]; kernel_rfl) | (rw [if_neg (by decide +kernel)]; exact ⟨rfl, rfl⟩))
    (fun os started H enc _ F => by rw [OpenClaim.pre_eq_preRow]; exact lifted os started H enc F)


theorem plain (f : FuncId) (fn : Func) (hf : Tryz.pinned.checked.prog.funcNamed Rows.matchMatchesReferenceRow.func = some f) (hfn : Tryz.pinned.checked.prog.funcs[f]? = some fn) :
    false = Tryz.pinned.checked.prog.looks [] ∧ ∀ (j : Nat) t, fn.params[j]? = some t → Tryz.pinned.checked.prog.wantsStandIn t = false := by
  obtain rfl : f = 3 := Option.some.inj ((show Tryz.prog.funcNamed Rows.matchMatchesReferenceRow.func = some 3 by kernel_rfl).symm.trans hf) |>.symm
  obtain rfl : fn = Tryz.f3 := (Option.some.inj (Tryz.func3.symm.trans hfn)).symm
  refine ⟨by kernel_rfl, fun j t ht => ?_⟩
  have hall : (Tryz.f3.params.toList.all fun t => !Tryz.prog.wantsStandIn t) = true := by kernel_rfl
  have hm : t ∈ Tryz.f3.params.toList := by simpa using Array.mem_of_getElem? ht
  have h1 := List.all_eq_true.1 hall t hm
  show Tryz.prog.wantsStandIn t = false
  simpa using h1
end Go.Proofs.YtganngkllfpgiaaGreatDoor.MatchMatchesReference
namespace Go.Proofs.YtganngkllfpgiaaGreatDoor
open Go
theorem matchMatchesReference_card : Rows.MatchMatchesReferenceCardSaid :=
  Claim7.holds_tied_plain_at .later [] _ _ _ _ MatchMatchesReference.said (fun _ h => by cases h) (by kernel_rfl) (fun _ h => by cases h) matchMatchesReference_row_tie rfl ⟨rfl, rfl⟩ (by kernel_rfl) rfl MatchMatchesReference.plain (by kernel_rfl)
#print axioms matchMatchesReference_card
end Go.Proofs.YtganngkllfpgiaaGreatDoor
