/- The law SnapNumbers answers true for all arguments.
   On the condition that the row names: the listed package-level variables hold what the program's text lays in them (the card ties that). -/
import Derived.Test.YtklcfpomppgblaaGreatDoorGh
import Derived.Test.YtklcfpomppgblaaGreatDoorCards
import Derived.Test.YtklcfpomppgblaaGreatDoorTie
import Derived.Test.YtklcfpomppgblaaGreatDoorS48
import Derived.Test.YtklcfpomppgblaaGreatDoorL48b
import Derived.WalkKit
set_option linter.all false
namespace Go.Proofs.YtklcfpomppgblaaGreatDoor.SnapNumbers
open Go Go.Gv Go.RowKit
open Go.Proofs

theorem own : ownKnob Tryz.prog.godebug = none := by kernel_rfl

theorem noHandles : (Rows.snapNumbersRow.laid.filter fun x => x.2.handleName?.isSome) = [] := by kernel_rfl
noncomputable def nm2 : String := (Rows.snapNumbersRow.laid.map (fun p => p.1)).getD 2 Tryz.f5.name
theorem at2 : Rows.snapNumbersRow.laid[2]? = some (nm2, Lib.tabData .u64 Lib.pow10Tab) := by kernel_rfl
theorem g2 : Tryz.prog.globalNamed nm2 = some 4 := by kernel_rfl
theorem gt2 : (Tryz.prog.globals[4]?).map (fun x => x.type) = some 263 := by kernel_rfl
theorem ce2 : Tryz.prog.cellsOf 186 = 1 := by kernel_rfl
theorem ct2 : Tryz.prog.cellsOf 263 = 20 := by kernel_rfl
noncomputable def nm3 : String := (Rows.snapNumbersRow.laid.map (fun p => p.1)).getD 3 Tryz.f5.name
def ss3 : List (List UInt8) := [[], [100, 101, 108, 105, 118, 101, 114], [100, 101, 99, 105, 100, 101], [112, 114, 111, 103, 114, 97, 109], [99, 104, 97, 110, 103, 101], [117, 110, 100, 111], [100, 105, 115, 111, 119, 110], [101, 114, 97, 115, 101]]
theorem at3 : Rows.snapNumbersRow.laid[3]? = some (nm3, .agg (ss3.map fun s => .lit (.string s))) := by kernel_rfl
theorem g3 : Tryz.prog.globalNamed nm3 = some 0 := by kernel_rfl
theorem gt3 : (Tryz.prog.globals[0]?).map (fun x => x.type) = some 142 := by kernel_rfl
theorem ce3 : Tryz.prog.cellsOf 9 = 1 := by kernel_rfl
theorem ct3 : Tryz.prog.cellsOf 142 = 8 := by kernel_rfl
theorem ut3 : Tryz.prog.underlying 142 = some (.array 8 9) := by kernel_rfl
theorem ue3 : Tryz.prog.underlying 9 = some .string := by kernel_rfl
theorem powRange : ∀ z ∈ Lib.pow10Tab, lo .u64 ≤ z ∧ z ≤ hi .u64 := by decide
theorem tabs {W : World} (h : laidMetH Tryz.prog Rows.snapNumbersRow.laid W) : ∀ g t y, glob g = some ⟨t, y⟩ → globOK t y (GW.all W) g := by
  intro g t y hg
  have hp := laid_plain h noHandles
  match g, hg with
  | 0, hg =>
    cases hg
    exact strs_of_list (ss := ss3) hp at3 g3 gt3 ut3 ue3 ce3 ct3 rfl
  | 1, hg => cases hg
  | 2, hg => cases hg
  | 3, hg => cases hg
  | 4, hg =>
    cases hg
    exact tab_sat (tab_of_list hp at2 g2 gt2 Tryz.underlying263 Tryz.underlying186 ce2 ct2) g2 powRange
  | _ + 5, hg => cases hg

theorem fnTrue {H : Type} : ∀ ds : List (DataW H), ds.length = Tryz.f5.params.size → Rows.snapNumbersSpec.fn H ds = { results := [.lit (.bool true)], args := ds }
  | [_], _ => rfl
  | [], h => by rw [Tryz.params5] at h; simp at h
  | _ :: _ :: _, h => by rw [Tryz.params5] at h; simp at h
theorem full : ((List.range Tryz.prog.types.size).all fun t => match Tryz.prog.underlying t with | some (.slice e) => decide (0 < Tryz.prog.cellsOf e) | _ => true) = true := by kernel_rfl
theorem laidOut : laidOutB Tryz.prog = true := by kernel_rfl
theorem mapsR : mapsRowed Tryz.prog = true := by kernel_rfl
theorem argsOK : argsB Tryz.prog S_law48_SnapNumbers.ins Tryz.f5.params.toList = true := by kernel_rfl
theorem typesOK : (Tryz.f5.params.toList.all fun t => decide (t < Tryz.prog.types.size)) = true := by kernel_rfl

set_option maxRecDepth 100000 in
theorem contract (H : Type) (enc : TypeId × Value → H) (W : World) (base : Nat) (args : Array Value) (ds gs : List (DataW H)) (before : List MemPlace)
    (hval : ∀ (j : Nat) t v, Tryz.f5.params[j]? = some t → args[j]? = some v → Value.okWide Tryz.prog W .any base t v)
    (hW : DataW.Whole enc Tryz.prog Tryz.f5.params.toList Rows.snapNumbersSpec.vars false W args.toList ds gs before) (hL : laidMetH Tryz.prog Rows.snapNumbersRow.laid W) :
    Calls Tryz.prog 5 args W fun e W' => ∃ v, e = .returned v ∧ Rows.snapNumbersSpec.post enc Tryz.prog Tryz.f5 false true false false W args v W' :=
  law_row (tb := 4) ok_law48_SnapNumbers (fun _ => trivial) (fun _ => rfl) argsOK rfl laidOut mapsR full typesOK rfl Tryz.underlying4 rfl fnTrue (tabs hL) hval hW

/-- A world for the witness: the settled one, the listed variables holding what the text lays. -/
noncomputable def laidWorld (os : Os) : World := putG (putG (putG (putG (putG (World.holding Tryz.prog os ⟨#[], #[], []⟩) 5 Rows.laid_math_bits_deBruijn32tab) 6 Rows.laid_math_bits_deBruijn64tab) 4 Rows.laid_internal_strconv_uint64pow10) 0 Rows.laid_cleanse_ledger_kinds) 1 Rows.laid_cleanse_ledger_decisions
def zeros : Array Value := #[.slice none 0 0]
theorem laid_met (os : Os) : laidMet Tryz.prog Rows.snapNumbersRow.laid ((laidWorld os).forCall (fun _ _ => 0) ⟨#[], zeros, []⟩).memory :=
  laidMet_of_run' 8 (by kernel_rfl) (by kernel_rfl)
theorem reads (os : Os) {H : Type} (enc : TypeId × Value → H) : (DataW.whole enc Tryz.prog ((laidWorld os).forCall (fun _ _ => 0) ⟨#[], zeros, []⟩).memory Tryz.f5.params.toList Rows.snapNumbersSpec.vars false zeros.toList 8).isSome = true := by kernel_rfl

set_option maxRecDepth 100000 in
theorem lifted (os : Os) (started : os.Started) (H : Type) (enc : TypeId × Value → H) (F : Stop.Interp) :
    ReturnsInHanded {} Tryz.checked os 5 .any ((OpenSpec.ofChange Rows.snapNumbersSpec).preRow enc Tryz.prog Tryz.f5 Rows.snapNumbersRow.domain false Rows.snapNumbersRow.laid) (((OpenSpec.ofChange Rows.snapNumbersSpec).at F).post enc Tryz.prog Tryz.f5 false true false false) := by
  obtain ⟨x, hx⟩ := Option.isSome_iff_exists.1 (reads os enc)
  refine returnsInHanded_of_row (C := Tryz.checked) (s := OpenSpec.ofChange Rows.snapNumbersSpec) own started (by kernel_rfl) Tryz.func5
    (witness_row_at (enc := enc) (C := Tryz.checked) false (laidWorld os) zeros rfl (by kernel_rfl) (by kernel_rfl) (by kernel_rfl)
      (OpenSpec.preRow_of_cond 8 hx rfl (fun k hk => by cases hk) (by kernel_rfl) (laid_met os))) ?_
  intro W base args ds gs before hval hW _ _ _ hL _ _
  exact contract H enc W base args ds gs before hval hW hL

theorem said : Rows.SnapNumbersSaid :=
  OpenClaim.holds_of_cond 5 Tryz.f5 rfl rfl rfl rfl rfl rfl rfl ⟨rfl, rfl, rfl, rfl, rfl⟩ rfl rfl rfl rfl rfl (by kernel_rfl) Tryz.func5 (by kernel_rfl)
    (of_decide_eq_true (by kernel_rfl)) (by unfold Func.isWrapper; first | (rw [if_pos (by decide +kernel)]; kernel_rfl) | (rw [if_neg (by decide +kernel)]; exact ⟨rfl, rfl⟩))
    (fun os started H enc _ F => by rw [OpenClaim.pre_eq_preRow]; exact lifted os started H enc F)


theorem plain (f : FuncId) (fn : Func) (hf : Tryz.pinned.checked.prog.funcNamed Rows.snapNumbersRow.func = some f) (hfn : Tryz.pinned.checked.prog.funcs[f]? = some fn) :
    true = Tryz.pinned.checked.prog.looks [] ∧ ∀ (j : Nat) t, fn.params[j]? = some t → Tryz.pinned.checked.prog.wantsStandIn t = false := by
  obtain rfl : f = 5 := Option.some.inj ((show Tryz.prog.funcNamed Rows.snapNumbersRow.func = some 5 by kernel_rfl).symm.trans hf) |>.symm
  obtain rfl : fn = Tryz.f5 := (Option.some.inj (Tryz.func5.symm.trans hfn)).symm
  refine ⟨by kernel_rfl, fun j t ht => ?_⟩
  have hall : (Tryz.f5.params.toList.all fun t => !Tryz.prog.wantsStandIn t) = true := by kernel_rfl
  have hm : t ∈ Tryz.f5.params.toList := by simpa using Array.mem_of_getElem? ht
  have h1 := List.all_eq_true.1 hall t hm
  show Tryz.prog.wantsStandIn t = false
  simpa using h1
end Go.Proofs.YtklcfpomppgblaaGreatDoor.SnapNumbers
namespace Go.Proofs.YtklcfpomppgblaaGreatDoor
open Go
theorem snapNumbers_card : Rows.SnapNumbersCardSaid :=
  Claim7.holds_tied_plain_at .later [] _ _ _ _ SnapNumbers.said (fun _ h => by cases h) (by kernel_rfl) (fun _ h => by cases h) snapNumbers_row_tie rfl ⟨rfl, rfl⟩ (by kernel_rfl) rfl SnapNumbers.plain (by kernel_rfl)
#print axioms snapNumbers_card
end Go.Proofs.YtklcfpomppgblaaGreatDoor
