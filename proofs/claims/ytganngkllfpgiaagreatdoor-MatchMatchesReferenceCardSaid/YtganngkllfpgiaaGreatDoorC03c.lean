/- Chapter 3: tokens, folded texts, grams, elements in common. -/
import Derived.Test.YtganngkllfpgiaaGreatDoorJ03
import Derived.Sort.Walk0
set_option linter.all false
namespace Go.Gv
open Go Go.Proofs Go.Proofs.YtganngkllfpgiaaGreatDoor
set_option maxRecDepth 100000
set_option maxHeartbeats 4000000

/-- The set of the words as a map. -/
def putW (m : List (List UInt8 × Bool)) (l : List (List UInt8 × Unit)) : List (List UInt8 × Bool) := l.foldl (fun m w => @mput (List UInt8) Bool (instDecidableEqDat .str) m w.1 true) m
theorem putW_keys : ∀ (l : List (List UInt8 × Unit)) (m : List (List UInt8 × Bool)), (keyS m).Nodup → (keyS (putW m l)).Nodup ∧ ∀ z, z ∈ keyS (putW m l) ↔ z ∈ l.map Prod.fst ∨ z ∈ keyS m
  | [], m, h => ⟨h, fun z => by simp [putW]⟩
  | w :: l, m, h => by
    have h1 := putW_keys l _ ((mput_key m w.1).2 h)
    refine ⟨h1.1, fun z => ?_⟩
    show z ∈ keyS (putW _ l) ↔ _
    rw [h1.2, (mput_key m w.1).1, List.map_cons, List.mem_cons]
    constructor
    · rintro (h | h | h)
      · exact .inl (.inr h)
      · exact .inl (.inl h)
      · exact .inr h
    · rintro ((h | h) | h)
      · exact .inr (.inl h)
      · exact .inl h
      · exact .inr (.inr h)
theorem mput_lenW (m : List (List UInt8 × Bool)) (k : List UInt8) : (@mput (List UInt8) Bool (instDecidableEqDat .str) m k true).length ≤ m.length + 1 := by
  induction m with
  | nil => simp [mput]
  | cons e m ih =>
    unfold mput
    split
    · simp
    · simp only [List.length_cons]; omega
theorem putW_len : ∀ (l : List (List UInt8 × Unit)) (m : List (List UInt8 × Bool)), (putW m l).length ≤ m.length + l.length
  | [], m => by simp [putW]
  | w :: l, m => by
    have h1 := putW_len l (@mput (List UInt8) Bool (instDecidableEqDat .str) m w.1 true)
    have h2 := mput_lenW m w.1
    have e : putW m (w :: l) = putW (@mput (List UInt8) Bool (instDecidableEqDat .str) m w.1 true) l := rfl
    rw [e, List.length_cons]; omega
theorem erase_permS {α : Type} : ∀ {l : List α} {i : Nat} (h : i < l.length), (l[i] :: l.eraseIdx i).Perm l
  | [], i, h => by simp at h
  | x :: l, 0, _ => List.Perm.refl _
  | x :: l, i + 1, h => by
    have := erase_permS (l := l) (i := i) (by simpa using h)
    rw [List.eraseIdx_cons_succ, List.getElem_cons_succ]
    exact (List.Perm.swap x _ _).trans (this.cons x)
theorem walk_stepS {s left : List (Bs × Bool)} {ou : List Bs} {i : Nat} {d : Bs × Bool} (h : (ou ++ keyS left).Perm (keyS s)) (hi : i < left.length) : (ou ++ [(left.getD i d).1] ++ keyS (left.eraseIdx i)).Perm (keyS s) := by
  refine List.Perm.trans ?_ h
  rw [List.append_assoc]
  refine List.Perm.append_left _ ?_
  rw [getD_ok _ hi]
  exact (erase_permS hi).map (fun e => e.1)

/-- The parts of n bytes of a text, sorted; and the elements that two sorted lists have in common. -/
def partS (s : Bs) (n k : Nat) : List Bs := (List.range k).map fun i => (s.take (i + n)).drop i
def gramS (s : Bs) (n : Int) : List Bs := if n < 1 ∨ 8 < n ∨ s = [] then [] else if (s.length : Int) < n then [s] else sorS (partS s n.toNat (s.length - n.toNat + 1))
instance {l : List Bs} : Decidable (incS l) := by unfold incS; infer_instance
def comV (a b : List Bs) : Int := if incS a ∧ incS b then (comS a b : Int) else 0

@[reducible] noncomputable def S_words_sorted : Spec := { ins := (.cons (.ob (.fm .str .bool)) .nil), pre := (fun x => (fun s => (keyS s).Nodup ∧ List.length s ≤ 2000000) x.1), alts := [{ outs := (.cons (.d (.sl .str)) .nil), res := (fun x => (fun s => (sorS (keyS s), ())) x.1) }] }
noncomputable def c_words_sorted : Cf := (cf_words_sorted (Fl [(fi_slices_Sort_sl_string_string, S_slices_Sort_sl_string_string)]))
theorem g_words_sorted : ∀ x, S_words_sorted.pre x → shOK S_words_sorted.ins x → fnGoal c_words_sorted fn_words_sorted S_words_sorted x := by
  rintro ⟨s, ⟨⟩⟩ hpre hok
  try dsimp only [Dat, SDat, dflt, Ty.size, keepS, bkUpd, Gv.bk, backS, wayA, maxI, minI, negI] at hpre
  have hln := shLn_of _ hok; replace hok := Hd.mk hok; try simp only [shLn, datLn, inRng, lo, hi, maxLen, true_and, and_true] at hln
  have hn := hpre.1
  have hl := hpre.2
  first | refine fn_goal (w_head ?_)
  intro K_ hK_; (conv => whnf); (try dsimp +instances only); refine hK_ _ ?_; clear hK_ K_; (conv => (arg 2; whnf))
  repeat' (first | with_reducible refine And.intro ?_ ?_ | ((try with_reducible refine gv_more ?_); first | ((with_reducible show K_ _); (try dsimp +instances only); (with_reducible refine hK_ _ ?_); clear hK_ K_) | with_reducible refine st ?_ | ((with_reducible refine sr ?_); intro K_ hK_; conv => whnf) | ((with_reducible refine w_cond ?_); (conv => arg 2; whnf); with_reducible refine st ?_) | refine blockK_y (by rfl) ?_ | ((with_reducible refine sw ?_); conv => whnf)) | ((with_reducible refine gv_more ?_); conv => whnf) | (intro hc; (try dsimp +instances only [Dat, SDat, dflt, Ty.size, keepS, bkUpd, Gv.bk, backS, wayA, maxI, minI, negI] at hc); (try simp only [LS] at hc)))
  all_goals (try ((fail_if_success with_reducible refine nl ?_); (try dsimp only [Dat, SDat, dflt, Ty.size, keepS, bkUpd, Gv.bk, backS, wayA, maxI, minI, negI]); (try simp only [LS]); first | done | exact dsc | ((try simp only [allP, lo, hi, room, true_and, and_true, implies_true]); (repeat' (first | with_reducible refine And.intro ?_ ?_ | ((with_reducible refine preA_t ?_ ?_); rotate_left; exact sameP_t) | intro hv)) <;> (try omega))))
  refine w_loop [(6, .ob (.mit .str .bool)), (3, .row .str)] [] (fun y => (List.Perm ((y.1.2.1 : List Bs) ++ keyS (y.1.1.1 : List (Bs × Bool))) (keyS s))) (fun y => List.length y.1.1.1) ?_
  conv => whnf
  refine And.intro ?_ ?_
  · exact List.Perm.refl _
  rintro ⟨⟨⟨left, cur, q⟩, ou, ⟨⟩⟩, ⟨⟩⟩ hp1
  have hp1 : List.Perm ((ou : List Bs) ++ keyS left) (keyS s) := hp1
  have hol := hp1.length_eq
  rw [List.length_append] at hol
  have hks : (keyS s).length = List.length s := by simp [keyS]
  have hol : List.length ou ≤ 2000000 := by omega
  repeat' (first | with_reducible refine And.intro ?_ ?_ | ((try with_reducible refine gv_more ?_); first | ((with_reducible show K_ _); (try dsimp +instances only); (with_reducible refine hK_ _ ?_); clear hK_ K_) | with_reducible refine st ?_ | ((with_reducible refine sr ?_); intro K_ hK_; conv => whnf) | ((with_reducible refine w_cond ?_); (conv => arg 2; whnf); with_reducible refine st ?_) | refine blockK_y (by rfl) ?_ | ((with_reducible refine sw ?_); conv => whnf)) | ((with_reducible refine gv_more ?_); conv => whnf) | (intro hc; (try dsimp +instances only [Dat, SDat, dflt, Ty.size, keepS, bkUpd, Gv.bk, backS, wayA, maxI, minI, negI] at hc); (try simp only [LS] at hc)))
  all_goals (try ((fail_if_success with_reducible refine nl ?_); (try dsimp only [Dat, SDat, dflt, Ty.size, keepS, bkUpd, Gv.bk, backS, wayA, maxI, minI, negI]); (try simp only [LS]); first | done | exact dsc | ((try simp only [allP, lo, hi, room, true_and, and_true, implies_true]); (repeat' (first | with_reducible refine And.intro ?_ ?_ | ((with_reducible refine preA_t ?_ ?_); rotate_left; exact sameP_t) | intro hv)) <;> (try omega))))
  all_goals (first
    | exact absurd hc (by assumption)
    | (simp only [Nat.reduceAdd, Nat.reduceMul]; omega)
    | (rename_i i hi
       have hi := hi hc
       first
         | exact walk_stepS hp1 hi
         | (rw [List.length_eraseIdx]; split <;> omega))
    | (have he : left = [] := hc
       subst he
       have hpe : (ou : List Bs).Perm (keyS s) := by simpa [keyS] using hp1
       rw [merge_sorS (hpe.nodup_iff.2 hn)]
       exact sorS_eq fun z => hpe.mem_iff)
    | skip)
theorem ok_words_sorted : SpecOK SP glob fi_words_sorted S_words_sorted := mk_ok (c := c_words_sorted) (tab_ok _) mix_ok wf_words_sorted (by decide) (.cons ok_slices_Sort_sl_string_string .nil) (fun x hx => Nat.zero_lt_one) g_words_sorted

@[reducible] noncomputable def S_words_Tokens : Spec := { ins := (.cons (.d .str) .nil), pre := (fun x => (fun text => text.length ≤ 1000000) x.1), alts := [{ outs := (.cons (.d (.sl .str)) .nil), res := (fun x => (fun text => (sorS (Ws text), ())) x.1) }] }
noncomputable def c_words_Tokens : Cf := { cf_words_Tokens (Fl [(fi_words_all, S_words_all), (fi_words_sorted, S_words_sorted)]) with eat := Eats SP, I := Il [(fi_words_all_1, S_words_all_1)] }
theorem g_words_Tokens : ∀ x, S_words_Tokens.pre x → shOK S_words_Tokens.ins x → fnGoal c_words_Tokens fn_words_Tokens S_words_Tokens x := by
  rintro ⟨text, ⟨⟩⟩ hpre hok
  try dsimp only [Dat, SDat, dflt, Ty.size, keepS, bkUpd, Gv.bk, backS, wayA, maxI, minI, negI] at hpre
  have hln := shLn_of _ hok; replace hok := Hd.mk hok; try simp only [shLn, datLn, inRng, lo, hi, maxLen, true_and, and_true] at hln
  first | refine fn_goal (w_head ?_) | refine fnL_goal (w_head ?_) | refine fnI_goal (w_head ?_)
  intro K_ hK_; (conv => whnf); (try dsimp +instances only); refine hK_ _ ?_; clear hK_ K_; (conv => (arg 2; whnf))
  repeat' (first | with_reducible refine And.intro ?_ ?_ | ((try with_reducible refine gv_more ?_); first | ((with_reducible show K_ _); (try dsimp +instances only); (with_reducible refine hK_ _ ?_); clear hK_ K_) | with_reducible refine st ?_ | ((with_reducible refine sr ?_); intro K_ hK_; conv => whnf) | ((with_reducible refine w_cond ?_); (conv => arg 2; whnf); with_reducible refine st ?_) | refine blockK_y (by rfl) ?_ | ((with_reducible refine sw ?_); conv => whnf)) | ((with_reducible refine gv_more ?_); conv => whnf) | (intro hc; (try dsimp +instances only [Dat, SDat, dflt, Ty.size, keepS, bkUpd, Gv.bk, backS, wayA, maxI, minI, negI] at hc); (try simp only [LS] at hc)))
  all_goals (try ((fail_if_success with_reducible refine nl ?_); (try dsimp only [Dat, SDat, dflt, Ty.size, keepS, bkUpd, Gv.bk, backS, wayA, maxI, minI, negI]); (try simp only [LS]); first | done | exact dsc | ((try simp only [allP, lo, hi, room, true_and, and_true, implies_true]); (repeat' (first | with_reducible refine And.intro ?_ ?_ | ((with_reducible refine preA_t ?_ ?_); rotate_left; exact sameP_t) | intro hv)) <;> (try omega))))
  refine w_rf S_words_all_1 [(1, .cons (.map .str .bool) .nil)] (fun l y => putW y.1.1 l = putW [] (wordsI [] text)) (by rfl) (by rfl) (by rfl) (by rfl) (by rfl) (by rfl) (by rfl) ?_ ?_
  rotate_left
  conv => whnf
  refine And.intro ?_ (And.intro ?_ ?_)
  · rfl
  · rintro ⟨s, ⟨⟩⟩ r ⟨⟨m, ⟨⟩⟩, ⟨⟩⟩ hi
    dsimp only at hi
    repeat' (first | with_reducible refine And.intro ?_ ?_ | ((try with_reducible refine gv_more ?_); first | ((with_reducible show K_ _); (try dsimp +instances only); (with_reducible refine hK_ _ ?_); clear hK_ K_) | with_reducible refine st ?_ | ((with_reducible refine sr ?_); intro K_ hK_; conv => whnf) | ((with_reducible refine w_cond ?_); (conv => arg 2; whnf); with_reducible refine st ?_) | refine blockK_y (by rfl) ?_ | ((with_reducible refine sw ?_); conv => whnf)) | ((with_reducible refine gv_more ?_); conv => whnf) | (intro hc; (try dsimp +instances only [Dat, SDat, dflt, Ty.size, keepS, bkUpd, Gv.bk, backS, wayA, maxI, minI, negI] at hc); (try simp only [LS] at hc)))
    all_goals (try ((fail_if_success with_reducible refine nl ?_); (try dsimp only [Dat, SDat, dflt, Ty.size, keepS, bkUpd, Gv.bk, backS, wayA, maxI, minI, negI]); (try simp only [LS]); first | done | exact dsc | ((try simp only [allP, lo, hi, room, true_and, and_true, implies_true]); (repeat' (first | with_reducible refine And.intro ?_ ?_ | ((with_reducible refine preA_t ?_ ?_); rotate_left; exact sameP_t) | intro hv)) <;> (try omega))))
    exact hi
  · rintro ⟨⟨m, ⟨⟩⟩, ⟨⟩⟩ hi
    dsimp only at hi
    have hi : m = putW [] (wordsI [] text) := hi
    have hk := putW_keys (wordsI [] text) [] (by simp [keyS])
    have hl := putW_len (wordsI [] text) []
    have hw := words_len text []
    subst hi
    repeat' (first | with_reducible refine And.intro ?_ ?_ | ((try with_reducible refine gv_more ?_); first | ((with_reducible show K_ _); (try dsimp +instances only); (with_reducible refine hK_ _ ?_); clear hK_ K_) | with_reducible refine st ?_ | ((with_reducible refine sr ?_); intro K_ hK_; conv => whnf) | ((with_reducible refine w_cond ?_); (conv => arg 2; whnf); with_reducible refine st ?_) | refine blockK_y (by rfl) ?_ | ((with_reducible refine sw ?_); conv => whnf)) | ((with_reducible refine gv_more ?_); conv => whnf) | (intro hc; (try dsimp +instances only [Dat, SDat, dflt, Ty.size, keepS, bkUpd, Gv.bk, backS, wayA, maxI, minI, negI] at hc); (try simp only [LS] at hc)))
    all_goals (try ((fail_if_success with_reducible refine nl ?_); (try dsimp only [Dat, SDat, dflt, Ty.size, keepS, bkUpd, Gv.bk, backS, wayA, maxI, minI, negI]); (try simp only [LS]); first | done | exact dsc | ((try simp only [allP, lo, hi, room, true_and, and_true, implies_true]); (repeat' (first | with_reducible refine And.intro ?_ ?_ | ((with_reducible refine preA_t ?_ ?_); rotate_left; exact sameP_t) | intro hv)) <;> (try omega))))
    · exact hk.1
    · simp only [List.length_nil] at hl; omega
    · exact sorS_eq fun z => by rw [hk.2, words_Ws]; simp [keyS]
  · exact ⟨text, rfl, hpre⟩
theorem ok_words_Tokens : SpecOK SP glob fi_words_Tokens S_words_Tokens := mk_ok (c := c_words_Tokens) (tab_ok _) mix_ok wf_words_Tokens (by decide) (.cons ok_words_all (.cons ok_words_sorted .nil)) (fun x hx => Nat.zero_lt_one) g_words_Tokens (hL := (LateOK.of rfl .nil (.cons ok_words_all_1 .nil)))
@[reducible] noncomputable def S_words_Fold : Spec := { ins := (.cons (.d .str) .nil), pre := (fun x => (fun text => text.length ≤ 1000000) x.1), alts := [{ outs := (.cons (.d .str) .nil), res := (fun x => (fun text => (foldT text, ())) x.1) }], noisy := true }
noncomputable def c_words_Fold : Cf := { cf_words_Fold (Fl [(fi_words_all, S_words_all), (fi_slices_Collect_string, S_slices_Collect_string), (fi_strings_Join, S_strings_Join)]) with nz := true }
theorem g_words_Fold : ∀ x, S_words_Fold.pre x → shOK S_words_Fold.ins x → fnGoal c_words_Fold fn_words_Fold S_words_Fold x := by
  rintro ⟨text, ⟨⟩⟩ hpre hok
  try dsimp only [Dat, SDat, dflt, Ty.size, keepS, bkUpd, Gv.bk, backS, wayA, maxI, minI, negI] at hpre
  have hln := shLn_of _ hok; replace hok := Hd.mk hok; try simp only [shLn, datLn, inRng, lo, hi, maxLen, true_and, and_true] at hln
  have hf := fold_len text
  have hw := words_len text []
  first | refine fn_goal (w_head ?_)
  intro K_ hK_; (conv => whnf); (try dsimp +instances only); refine hK_ _ ?_; clear hK_ K_; (conv => (arg 2; whnf))
  repeat' (first | with_reducible refine And.intro ?_ ?_ | ((try with_reducible refine gv_more ?_); first | ((with_reducible show K_ _); (try dsimp +instances only); (with_reducible refine hK_ _ ?_); clear hK_ K_) | with_reducible refine st ?_ | ((with_reducible refine sr ?_); intro K_ hK_; conv => whnf) | ((with_reducible refine w_cond ?_); (conv => arg 2; whnf); with_reducible refine st ?_) | refine blockK_y (by rfl) ?_ | ((with_reducible refine sw ?_); conv => whnf)) | ((with_reducible refine gv_more ?_); conv => whnf) | (intro hc; (try dsimp +instances only [Dat, SDat, dflt, Ty.size, keepS, bkUpd, Gv.bk, backS, wayA, maxI, minI, negI] at hc); (try simp only [LS] at hc)))
  all_goals (try ((fail_if_success with_reducible refine nl ?_); (try dsimp only [Dat, SDat, dflt, Ty.size, keepS, bkUpd, Gv.bk, backS, wayA, maxI, minI, negI]); (try simp only [LS]); first | done | exact dsc | ((try simp only [allP, lo, hi, room, true_and, and_true, implies_true]); (repeat' (first | with_reducible refine And.intro ?_ ?_ | ((with_reducible refine preA_t ?_ ?_); rotate_left; exact sameP_t) | intro hv)) <;> (try omega))))
  all_goals (first
    | exact ⟨text, rfl, hpre⟩
    | (rw [Option.getD_some, words_Ws]; first | rfl | (show (foldT text).length ≤ _; omega))
    | (rw [Option.getD_some]; omega)
    | skip)
theorem ok_words_Fold : SpecOK SP glob fi_words_Fold S_words_Fold := mk_ok (c := c_words_Fold) (tab_ok _) mix_ok wf_words_Fold (by decide) (.cons ok_words_all (.cons ok_slices_Collect_string (.cons ok_strings_Join .nil))) (fun x hx => Nat.zero_lt_one) g_words_Fold

theorem strLt_lt {a b : Bs} : strLt a b ↔ a < b := by unfold strLt; rw [bytesLess_eq, decide_eq_true_eq]
end Go.Gv
