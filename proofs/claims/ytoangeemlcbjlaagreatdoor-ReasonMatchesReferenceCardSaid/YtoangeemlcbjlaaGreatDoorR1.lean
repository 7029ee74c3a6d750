/- The law ReasonMatchesReference answers true for all arguments.
   On the condition that the row names: the listed package-level variables hold what the program's text lays in them (the card ties that). -/
import Derived.Test.YtoangeemlcbjlaaGreatDoorGg
import Derived.Test.YtoangeemlcbjlaaGreatDoorCards
import Derived.Test.YtoangeemlcbjlaaGreatDoorTie
import Derived.Test.YtoangeemlcbjlaaGreatDoorL17
import Derived.WalkKit
set_option linter.all false
namespace Go.Proofs.YtoangeemlcbjlaaGreatDoor.ReasonMatchesReference
open Go Go.Gv Go.RowKit
open Go.Proofs

theorem own : ownKnob Tryz.prog.godebug = none := by kernel_rfl

theorem noHandles : (Rows.reasonMatchesReferenceRow.laid.filter fun x => x.2.handleName?.isSome) = [] := by kernel_rfl
noncomputable def nm2 : String := (Rows.reasonMatchesReferenceRow.laid.map (fun p => p.1)).getD 2 Tryz.f3.name
theorem at2 : Rows.reasonMatchesReferenceRow.laid[2]? = some (nm2, Lib.tabData .u64 Lib.pow10Tab) := by kernel_rfl
theorem g2 : Tryz.prog.globalNamed nm2 = some 0 := by kernel_rfl
theorem gt2 : (Tryz.prog.globals[0]?).map (fun x => x.type) = some 150 := by kernel_rfl
theorem ce2 : Tryz.prog.cellsOf 124 = 1 := by kernel_rfl
theorem ct2 : Tryz.prog.cellsOf 150 = 20 := by kernel_rfl
theorem powRange : ∀ z ∈ Lib.pow10Tab, lo .u64 ≤ z ∧ z ≤ hi .u64 := by decide
theorem tabs {W : World} (h : laidMetH Tryz.prog Rows.reasonMatchesReferenceRow.laid W) : ∀ g t y, glob g = some ⟨t, y⟩ → globOK t y (GW.all W) g := by
  intro g t y hg
  have ht := tab_of_list (laid_plain h noHandles) at2 g2 gt2 Tryz.underlying150 Tryz.underlying124 ce2 ct2
  match g, hg with
  | 0, hg =>
    cases hg
    exact tab_sat ht g2 powRange
  | _ + 1, hg => cases hg

theorem fnTrue {H : Type} : ∀ ds : List (DataW H), ds.length = Tryz.f3.params.size → Rows.reasonMatchesReferenceSpec.fn H ds = { results := [.lit (.bool true)], args := ds }
  | [_, _, _, _, _], _ => rfl
  | [], h => by rw [Tryz.params3] at h; simp at h
  | [_], h => by rw [Tryz.params3] at h; simp at h
  | [_, _], h => by rw [Tryz.params3] at h; simp at h
  | [_, _, _], h => by rw [Tryz.params3] at h; simp at h
  | [_, _, _, _], h => by rw [Tryz.params3] at h; simp at h
  | _ :: _ :: _ :: _ :: _ :: _ :: _, h => by rw [Tryz.params3] at h; simp at h
theorem full : ((List.range Tryz.prog.types.size).all fun t => match Tryz.prog.underlying t with | some (.slice e) => decide (0 < Tryz.prog.cellsOf e) | _ => true) = true := by kernel_rfl
theorem laidOut : laidOutB Tryz.prog = true := by kernel_rfl
theorem mapsR : mapsRowed Tryz.prog = true := by kernel_rfl
theorem argsOK : argsB Tryz.prog S_z32.ins Tryz.f3.params.toList = true := by kernel_rfl
theorem typesOK : (Tryz.f3.params.toList.all fun t => decide (t < Tryz.prog.types.size)) = true := by kernel_rfl

set_option maxRecDepth 100000 in
theorem contract (H : Type) (enc : TypeId × Value → H) (W : World) (base : Nat) (args : Array Value) (ds gs : List (DataW H)) (before : List MemPlace)
    (hval : ∀ (j : Nat) t v, Tryz.f3.params[j]? = some t → args[j]? = some v → Value.okWide Tryz.prog W .any base t v)
    (hW : DataW.Whole enc Tryz.prog Tryz.f3.params.toList Rows.reasonMatchesReferenceSpec.vars false W args.toList ds gs before) (hL : laidMetH Tryz.prog Rows.reasonMatchesReferenceRow.laid W) :
    Calls Tryz.prog 3 args W fun e W' => ∃ v, e = .returned v ∧ Rows.reasonMatchesReferenceSpec.post enc Tryz.prog Tryz.f3 false true false false W args v W' :=
  law_row (tb := 4) ok_z32 (fun _ => trivial) (fun _ => rfl) argsOK rfl laidOut mapsR full typesOK rfl Tryz.underlying4 rfl fnTrue (tabs hL) hval hW

/-- A world for the witness: the settled one, the listed variables holding what the text lays. -/
noncomputable def laidWorld (os : Os) : World := putG (putG (putG (World.holding Tryz.prog os ⟨#[], #[], []⟩) 1 Rows.laid_math_bits_deBruijn32tab) 2 Rows.laid_math_bits_deBruijn64tab) 0 Rows.laid_internal_strconv_uint64pow10
def zeros : Array Value := #[.agg #[.slice none 0 0], .int .i64 0, .slice none 0 0, .slice none 0 0, .slice none 0 0]
theorem laid_met (os : Os) : laidMet Tryz.prog Rows.reasonMatchesReferenceRow.laid ((laidWorld os).forCall (fun _ _ => 0) ⟨#[], zeros, []⟩).memory :=
  laidMet_of_run' 8 (by kernel_rfl) (by kernel_rfl)
theorem reads (os : Os) {H : Type} (enc : TypeId × Value → H) : (DataW.whole enc Tryz.prog ((laidWorld os).forCall (fun _ _ => 0) ⟨#[], zeros, []⟩).memory Tryz.f3.params.toList Rows.reasonMatchesReferenceSpec.vars false zeros.toList 8).isSome = true := by kernel_rfl

set_option maxRecDepth 100000 in
theorem lifted (os : Os) (started : os.Started) (H : Type) (enc : TypeId × Value → H) (F : Stop.Interp) :
    ReturnsInHanded {} Tryz.checked os 3 .any ((OpenSpec.ofChange Rows.reasonMatchesReferenceSpec).preRow enc Tryz.prog Tryz.f3 Rows.reasonMatchesReferenceRow.domain false Rows.reasonMatchesReferenceRow.laid) (((OpenSpec.ofChange Rows.reasonMatchesReferenceSpec).at F).post enc Tryz.prog Tryz.f3 false true false false) := by
  obtain ⟨x, hx⟩ := Option.isSome_iff_exists.1 (reads os enc)
  refine returnsInHanded_of_row (C := Tryz.checked) (s := OpenSpec.ofChange Rows.reasonMatchesReferenceSpec) own started (by kernel_rfl) Tryz.func3
    (witness_row_at (enc := enc) (C := Tryz.checked) false (laidWorld os) zeros rfl (by kernel_rfl) (by kernel_rfl) (by kernel_rfl)
      (OpenSpec.preRow_of_cond 8 hx rfl (fun k hk => by cases hk) (by kernel_rfl) (laid_met os))) ?_
  intro W base args ds gs before hval hW _ _ _ hL _ _
  exact contract H enc W base args ds gs before hval hW hL

theorem said : Rows.ReasonMatchesReferenceSaid :=
  OpenClaim.holds_of_cond 3 Tryz.f3 rfl rfl rfl rfl rfl rfl rfl ⟨rfl, rfl, rfl, rfl, rfl⟩ rfl rfl rfl rfl rfl (by kernel_rfl) Tryz.func3 (by kernel_rfl)
    (of_decide_eq_true (by kernel_rfl)) (by unfold Func.isWrapper; first | (rw [if_pos (by decide +kernel)]; kernel_rfl) | (rw [if_neg (by decide +kernel)]; exact ⟨rfl, rfl⟩))
    (fun os started H enc _ F => by rw [OpenClaim.pre_eq_preRow]; exact lifted os started H enc F)


theorem plain (f : FuncId) (fn : Func) (hf : Tryz.pinned.checked.prog.funcNamed Rows.reasonMatchesReferenceRow.func = some f) (hfn : Tryz.pinned.checked.prog.funcs[f]? = some fn) :
    false = Tryz.pinned.checked.prog.looks [] ∧ ∀ (j : Nat) t, fn.params[j]? = some t → Tryz.pinned.checked.prog.wantsStandIn t = false := by
  obtain rfl : f = 3 := Option.some.inj ((show Tryz.prog.funcNamed Rows.reasonMatchesReferenceRow.func = some 3 by kernel_rfl).symm.trans hf) |>.symm
  obtain rfl : fn = Tryz.f3 := (Option.some.inj (Tryz.func3.symm.trans hfn)).symm
  refine ⟨by kernel_rfl, fun j t ht => ?_⟩
  have hall : (Tryz.f3.params.toList.all fun t => !Tryz.prog.wantsStandIn t) = true := by kernel_rfl
  have hm : t ∈ Tryz.f3.params.toList := by simpa using Array.mem_of_getElem? ht
  have h1 := List.all_eq_true.1 hall t hm
  show Tryz.prog.wantsStandIn t = false
  simpa using h1
end Go.Proofs.YtoangeemlcbjlaaGreatDoor.ReasonMatchesReference
namespace Go.Proofs.YtoangeemlcbjlaaGreatDoor
open Go
theorem reasonMatchesReference_card : Rows.ReasonMatchesReferenceCardSaid :=
  Claim7.holds_tied_plain_at .later [] _ _ _ _ ReasonMatchesReference.said (fun _ h => by cases h) (by kernel_rfl) (fun _ h => by cases h) reasonMatchesReference_row_tie rfl ⟨rfl, rfl⟩ (by kernel_rfl) rfl ReasonMatchesReference.plain (by kernel_rfl)
#print axioms reasonMatchesReference_card
end Go.Proofs.YtoangeemlcbjlaaGreatDoor
