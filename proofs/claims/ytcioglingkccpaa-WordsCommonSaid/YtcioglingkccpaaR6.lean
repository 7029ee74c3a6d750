/- The law WordsCommon answers true for all texts.
   On no condition. -/
import Derived.Test.YtcioglingkccpaaGf
import Derived.Test.YtcioglingkccpaaRows
import Derived.Test.YtcioglingkccpaaL03c
import Derived.WalkKit
set_option linter.all false
namespace Go.Proofs.Ytcioglingkccpaa.WordsCommon
open Go Go.Gv Go.RowKit
open Go.Proofs

theorem own : ownKnob Try.prog.godebug = none := by kernel_rfl

theorem noHandles : (Rows.wordsCommonRow.laid.filter fun x => x.2.handleName?.isSome) = [] := by kernel_rfl
theorem tabs {W : World} (_ : laidMetH Try.prog Rows.wordsCommonRow.laid W) : ∀ g t y, glob g = some ⟨t, y⟩ → globOK t y (GW.all W) g := fun _ _ _ h => by cases h

theorem fnTrue {H : Type} : ∀ ds : List (DataW H), ds.length = Try.f8.params.size → Rows.wordsCommonSpec.fn H ds = { results := [.lit (.bool true)], args := ds }
  | [_, _], _ => rfl
  | [], h => by rw [Try.params8] at h; simp at h
  | [_], h => by rw [Try.params8] at h; simp at h
  | _ :: _ :: _ :: _, h => by rw [Try.params8] at h; simp at h
theorem full : ((List.range Try.prog.types.size).all fun t => match Try.prog.underlying t with | some (.slice e) => decide (0 < Try.prog.cellsOf e) | _ => true) = true := by kernel_rfl
theorem laidOut : laidOutB Try.prog = true := by kernel_rfl
theorem mapsR : mapsRowed Try.prog = true := by kernel_rfl
theorem argsOK : argsB Try.prog S_law03_WordsCommon.ins Try.f8.params.toList = true := by kernel_rfl
theorem typesOK : (Try.f8.params.toList.all fun t => decide (t < Try.prog.types.size)) = true := by kernel_rfl

set_option maxRecDepth 100000 in
theorem contract (H : Type) (enc : TypeId × Value → H) (W : World) (base : Nat) (args : Array Value) (ds gs : List (DataW H)) (before : List MemPlace)
    (hval : ∀ (j : Nat) t v, Try.f8.params[j]? = some t → args[j]? = some v → Value.okWide Try.prog W .any base t v)
    (hW : DataW.Whole enc Try.prog Try.f8.params.toList Rows.wordsCommonSpec.vars false W args.toList ds gs before) (hL : laidMetH Try.prog Rows.wordsCommonRow.laid W) :
    Calls Try.prog 8 args W fun e W' => ∃ v, e = .returned v ∧ Rows.wordsCommonSpec.post enc Try.prog Try.f8 false true false false W args v W' :=
  law_row (tb := 4) ok_law03_WordsCommon (fun _ => trivial) (fun _ => rfl) argsOK rfl laidOut mapsR full typesOK rfl Try.underlying4 rfl fnTrue (tabs hL) hval hW

/-- A world for the witness: the settled one, the listed variables holding what the text lays. -/
noncomputable def laidWorld (os : Os) : World := World.holding Try.prog os ⟨#[], #[], []⟩
def zeros : Array Value := #[.string ⟨#[]⟩, .string ⟨#[]⟩]
theorem laid_met (os : Os) : laidMet Try.prog Rows.wordsCommonRow.laid ((laidWorld os).forCall (fun _ _ => 0) ⟨#[], zeros, []⟩).memory :=
  laidMet_of_run' 8 (by kernel_rfl) (by kernel_rfl)
theorem reads (os : Os) {H : Type} (enc : TypeId × Value → H) : (DataW.whole enc Try.prog ((laidWorld os).forCall (fun _ _ => 0) ⟨#[], zeros, []⟩).memory Try.f8.params.toList Rows.wordsCommonSpec.vars false zeros.toList 8).isSome = true := by kernel_rfl

set_option maxRecDepth 100000 in
theorem lifted (os : Os) (started : os.Started) (H : Type) (enc : TypeId × Value → H) (F : Stop.Interp) :
    ReturnsInHanded {} Try.checked os 8 .any ((OpenSpec.ofChange Rows.wordsCommonSpec).preRow enc Try.prog Try.f8 Rows.wordsCommonRow.domain false Rows.wordsCommonRow.laid) (((OpenSpec.ofChange Rows.wordsCommonSpec).at F).post enc Try.prog Try.f8 false true false false) := by
  obtain ⟨x, hx⟩ := Option.isSome_iff_exists.1 (reads os enc)
  refine returnsInHanded_of_row (C := Try.checked) (s := OpenSpec.ofChange Rows.wordsCommonSpec) own started (by kernel_rfl) Try.func8
    (witness_row_at (enc := enc) (C := Try.checked) false (laidWorld os) zeros rfl (by kernel_rfl) (by kernel_rfl) (by kernel_rfl)
      (OpenSpec.preRow_of_cond 8 hx rfl (fun k hk => by cases hk) (by kernel_rfl) (laid_met os))) ?_
  intro W base args ds gs before hval hW _ _ _ hL _ _
  exact contract H enc W base args ds gs before hval hW hL

theorem said : Rows.WordsCommonSaid :=
  OpenClaim.holds_of_cond 8 Try.f8 rfl rfl rfl rfl rfl rfl rfl ⟨rfl, rfl, rfl, rfl, rfl⟩ rfl rfl rfl rfl rfl (by kernel_rfl) Try.func8 (by kernel_rfl)
    (of_decide_eq_true (by kernel_rfl)) (by unfold Func.isWrapper; first | (rw [if_pos (by decide +kernel)]; kernel_rfl) | (rw [if_neg (by decide +kernel)]; exact ⟨rfl, rfl⟩))
    (fun os started H enc _ F => by rw [OpenClaim.pre_eq_preRow]; exact lifted os started H enc F)


end Go.Proofs.Ytcioglingkccpaa.WordsCommon
namespace Go.Proofs.Ytcioglingkccpaa
open Go
theorem wordsCommon_holds : Rows.WordsCommonSaid := WordsCommon.said
#print axioms wordsCommon_holds
end Go.Proofs.Ytcioglingkccpaa
