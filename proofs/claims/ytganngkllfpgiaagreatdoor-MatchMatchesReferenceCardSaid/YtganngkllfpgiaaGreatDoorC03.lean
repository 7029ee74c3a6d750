/- Chapter 3: words: the iterator and its consumers. -/
import Derived.Test.YtganngkllfpgiaaGreatDoorB0
set_option linter.all false
namespace Go.Gv
open Go Go.Proofs Go.Proofs.YtganngkllfpgiaaGreatDoor
set_option maxRecDepth 100000
set_option maxHeartbeats 4000000

/-- A letter in lower case, a digit, or 0. -/
def lowB (c : Int) : Int := if 65 ≤ c ∧ c ≤ 90 then c + 32 else if (97 ≤ c ∧ c ≤ 122) ∨ (48 ≤ c ∧ c ≤ 57) then c else 0
theorem lowB_rng {c : Int} (h0 : 0 ≤ c) (h1 : c ≤ 255) : 0 ≤ lowB c ∧ lowB c ≤ 255 := by
  unfold lowB; split
  · omega
  · split <;> omega

/-- The words of a text, behind what is read of a word already. -/
def wordsI : List Int → List UInt8 → List (List UInt8 × Unit)
  | w, [] => if w = [] then [] else [(w.map byteOf, ())]
  | w, c :: r => if lowB (c.toNat : Int) = 0 then (if w = [] then wordsI [] r else (w.map byteOf, ()) :: wordsI [] r) else wordsI (w ++ [lowB (c.toNat : Int)]) r

@[reducible] noncomputable def S_words_lower : Spec := { ins := (.cons (.d tBy) .nil), pre := fun _ => True, alts := [{ outs := (.cons (.d tBy) .nil), res := (fun x => (fun c => (lowB c, ())) x.1) }] }
noncomputable def c_words_lower : Cf := (cf_words_lower (Fl []))
theorem g_words_lower : ∀ x, S_words_lower.pre x → shOK S_words_lower.ins x → fnGoal c_words_lower fn_words_lower S_words_lower x := by
  rintro ⟨c, ⟨⟩⟩ hpre hok
  clear hpre
  have hln := shLn_of _ hok; replace hok := Hd.mk hok; try simp only [shLn, datLn, inRng, lo, hi, maxLen, true_and, and_true] at hln
  first | refine fn_goal (w_head ?_)
  intro K_ hK_; (conv => whnf); (try dsimp +instances only); refine hK_ _ ?_; clear hK_ K_; (conv => (arg 2; whnf))
  repeat' (first | with_reducible refine And.intro ?_ ?_ | ((try with_reducible refine gv_more ?_); first | ((with_reducible show K_ _); (try dsimp +instances only); (with_reducible refine hK_ _ ?_); clear hK_ K_) | with_reducible refine st ?_ | ((with_reducible refine sr ?_); intro K_ hK_; conv => whnf) | ((with_reducible refine w_cond ?_); (conv => arg 2; whnf); with_reducible refine st ?_) | refine blockK_y (by rfl) ?_ | ((with_reducible refine sw ?_); conv => whnf)) | ((with_reducible refine gv_more ?_); conv => whnf) | (intro hc; (try dsimp +instances only [Dat, SDat, dflt, Ty.size, keepS, bkUpd, Gv.bk, backS, wayA, maxI, minI, negI] at hc); (try simp only [LS] at hc)))
  all_goals (try ((fail_if_success with_reducible refine nl ?_); (try dsimp only [Dat, SDat, dflt, Ty.size, keepS, bkUpd, Gv.bk, backS, wayA, maxI, minI, negI]); (try simp only [LS]); first | done | exact dsc | ((try simp only [allP, lo, hi, room, true_and, and_true, implies_true]); (repeat' (first | with_reducible refine And.intro ?_ ?_ | ((with_reducible refine preA_t ?_ ?_); rotate_left; exact sameP_t) | intro hv)) <;> (try omega))))
  all_goals (try (simp only [lowB]; split <;> (try split) <;> omega))
theorem ok_words_lower : SpecOK SP glob fi_words_lower S_words_lower := mk_ok (c := c_words_lower) (tab_ok _) mix_ok wf_words_lower (by decide) .nil (fun x hx => Nat.zero_lt_one) g_words_lower

@[reducible] noncomputable def S_words_all_1_1 : LSpec := { ins := (.cons (.box (.cons (.row tBy) .nil)) (.cons (.box (.cons (.ob (.log [.str])) .nil)) .nil)), pre := (fun x => (fun w o => w.1 ≠ [] → o.1.1.head? = some (w.1.map byteOf, ()) ∧ Eats SP [.str] o.1.2.2 o.1.1 o.1.2.1) x.1 x.2.1), X := Bool × Eater, ok := fun x χ => (fun w o => (fun q E => if w.1 = [] then q = true ∧ E = o.1.2.1 else Eats SP [.str] o.1.2.2 (if q = true then o.1.1.tail else []) E) χ.1 χ.2) x.1 x.2.1, alt := fun χ => { outs := (.cons (.d .bool) .nil), res := (fun x => (fun w o => (fun q E => (q, ())) χ.1 χ.2) x.1 x.2.1), upd := (fun x => (fun w o => (fun q E => (([], ()), ((if w.1 = [] then o.1.1 else if q = true then o.1.1.tail else [], E, o.1.2.2), ()), ())) χ.1 χ.2) x.1 x.2.1) } }
noncomputable def c_words_all_1_1 : Cf := { cf_words_all_1_1 (Fl []) with spl := [10], eat := Eats SP }
theorem g_words_all_1_1 : ∀ x, S_words_all_1_1.pre x → shOK S_words_all_1_1.ins x → fnGoalL c_words_all_1_1 fn_words_all_1_1 S_words_all_1_1 x := by
  rintro ⟨⟨w, ⟨⟩⟩, ⟨⟨ys, E, D⟩, ⟨⟩⟩, ⟨⟩⟩ hpre hok
  try dsimp only [Dat, SDat, dflt, Ty.size, keepS, bkUpd, Gv.bk, backS, wayA, maxI, minI, negI] at hpre
  have hln := shLn_of _ hok; replace hok := Hd.mk hok; try simp only [shLn, datLn, inRng, lo, hi, maxLen, true_and, and_true] at hln
  first | refine fn_goal (w_head ?_) | refine fnL_goal (w_head ?_) | refine fnI_goal (w_head ?_)
  intro K_ hK_; (conv => whnf); (try dsimp +instances only); refine hK_ _ ?_; clear hK_ K_; (conv => (arg 2; whnf))
  repeat' (first | with_reducible refine And.intro ?_ ?_ | ((try with_reducible refine gv_more ?_); first | ((with_reducible show K_ _); (try dsimp +instances only); (with_reducible refine hK_ _ ?_); clear hK_ K_) | with_reducible refine st ?_ | ((with_reducible refine sr ?_); intro K_ hK_; conv => whnf) | ((with_reducible refine w_cond ?_); (conv => arg 2; whnf); with_reducible refine st ?_) | refine blockK_y (by rfl) ?_ | ((with_reducible refine sw ?_); conv => whnf)) | ((with_reducible refine gv_more ?_); conv => whnf) | (intro hc; (try dsimp +instances only [Dat, SDat, dflt, Ty.size, keepS, bkUpd, Gv.bk, backS, wayA, maxI, minI, negI] at hc); (try simp only [LS] at hc)))
  all_goals (try ((fail_if_success with_reducible refine nl ?_); (try dsimp only [Dat, SDat, dflt, Ty.size, keepS, bkUpd, Gv.bk, backS, wayA, maxI, minI, negI]); (try simp only [LS]); first | done | exact dsc | ((try simp only [allP, lo, hi, room, true_and, and_true, implies_true]); (repeat' (first | with_reducible refine And.intro ?_ ?_ | ((with_reducible refine preA_t ?_ ?_); rotate_left; exact sameP_t) | intro hv)) <;> (try omega))))
  · have hw : w = [] := by simpa using hc
    subst hw
    refine w_chi (((true, E) : Bool × Eater)) ?_ ?_
    rotate_left
    conv => whnf
    · exact ⟨trivial, rfl, by simp [bkUpd]; rfl⟩
    · simp
  · rename_i hw
    exact (hpre (fun e => hw (by rw [e]; rfl))).1
  · rename_i hw
    exact (hpre (fun e => hw (by rw [e]; rfl))).2
  · rename_i hw h1 q
    have hw' : w ≠ [] := fun e => hw (by rw [e]; rfl)
    refine w_chi ((q : Bool × Eater)) ?_ ?_
    rotate_left
    conv => whnf
    · refine ⟨trivial, ?_, ?_⟩
      · simp [boolOf]
      · simp [bkUpd, hw']; rfl
    · simp only [if_neg hw']
      exact hc
theorem ok_words_all_1_1 : LSpecOK SP glob fi_words_all_1_1 S_words_all_1_1 := mk_late (c := c_words_all_1_1) (tab_ok _) mix_ok wf_words_all_1_1 (by decide) .nil (LateOK.of rfl .nil .nil) g_words_all_1_1

theorem words_nil {w : List Int} : wordsI w [] = if w = [] then [] else [(w.map byteOf, ())] := rfl
theorem words_cons {w : List Int} {c : UInt8} {r : List UInt8} : wordsI w (c :: r) = if lowB (c.toNat : Int) = 0 then (if w = [] then wordsI [] r else (w.map byteOf, ()) :: wordsI [] r) else wordsI (w ++ [lowB (c.toNat : Int)]) r := rfl

@[reducible] noncomputable def S_words_all_1 : ItSpec := { ts := [.str], caps := (.cons (.d (.pt .str)) .nil), pre := (fun x => (fun to => ∃ t, to = some t ∧ t.length ≤ 1000000) x.1), seq := (fun x => (fun to => wordsI [] (to.getD [])) x.1) }
noncomputable def c_words_all_1 : Cf := { cf_words_all_1 (Fl [(fi_words_lower, S_words_lower)]) with eat := Eats SP, L := Ll [(fi_words_all_1_1, S_words_all_1_1)] }
theorem g_words_all_1 : ∀ x : SDat (.cons (.ob (.log S_words_all_1.ts)) S_words_all_1.caps), S_words_all_1.pre x.2 → x.1.1 = S_words_all_1.seq x.2 → c_words_all_1.eat S_words_all_1.ts x.1.2.2 x.1.1 x.1.2.1 → shOK (.cons (.ob (.log S_words_all_1.ts)) S_words_all_1.caps) x → fnGoalI c_words_all_1 fn_words_all_1 S_words_all_1 x := by
  rintro ⟨⟨ys, E, D⟩, to, ⟨⟩⟩ hpre hys heat hok
  try dsimp only [Dat, SDat, dflt, Ty.size, keepS, bkUpd, Gv.bk, backS, wayA, maxI, minI, negI] at hpre
  dsimp only at hys heat
  have hln := shLn_of _ hok; replace hok := Hd.mk hok; try simp only [shLn, datLn, inRng, lo, hi, maxLen, true_and, and_true] at hln
  obtain ⟨t, rfl, ht⟩ := hpre
  first | refine fn_goal (w_head ?_) | refine fnL_goal (w_head ?_) | refine fnI_goal (w_head ?_)
  intro K_ hK_; (conv => whnf); (try dsimp +instances only); refine hK_ _ ?_; clear hK_ K_; (conv => (arg 2; whnf))
  repeat' (first | with_reducible refine And.intro ?_ ?_ | ((try with_reducible refine gv_more ?_); first | ((with_reducible show K_ _); (try dsimp +instances only); (with_reducible refine hK_ _ ?_); clear hK_ K_) | with_reducible refine st ?_ | ((with_reducible refine sr ?_); intro K_ hK_; conv => whnf) | ((with_reducible refine w_cond ?_); (conv => arg 2; whnf); with_reducible refine st ?_) | refine blockK_y (by rfl) ?_ | ((with_reducible refine sw ?_); conv => whnf)) | ((with_reducible refine gv_more ?_); conv => whnf) | (intro hc; (try dsimp +instances only [Dat, SDat, dflt, Ty.size, keepS, bkUpd, Gv.bk, backS, wayA, maxI, minI, negI] at hc); (try simp only [LS] at hc)))
  all_goals (try ((fail_if_success with_reducible refine nl ?_); (try dsimp only [Dat, SDat, dflt, Ty.size, keepS, bkUpd, Gv.bk, backS, wayA, maxI, minI, negI]); (try simp only [LS]); first | done | exact dsc | ((try simp only [allP, lo, hi, room, true_and, and_true, implies_true]); (repeat' (first | with_reducible refine And.intro ?_ ?_ | ((with_reducible refine preA_t ?_ ?_); rotate_left; exact sameP_t) | intro hv)) <;> (try omega))))
  refine w_loop [(10, .d tInt)] [(1, .cons (.ob (.log [.str])) .nil), (2, .cons (.row tBy) .nil)] (fun y => ∃ k : Nat, y.1.1 = (k : Int) ∧ k ≤ t.length ∧ y.2.1.1.2.2 = D ∧ y.2.1.1.1 = wordsI y.2.2.1.1 (t.drop k) ∧ Eats SP [.str] D y.2.1.1.1 y.2.1.1.2.1 ∧ List.length y.2.2.1.1 ≤ k) (fun y => (t.length - y.1.1).toNat) ?_
  conv => whnf
  refine And.intro ?_ ?_
  · exact ⟨0, rfl, Nat.zero_le _, rfl, by simpa using hys, heat, Nat.le_refl _⟩
  · rintro ⟨⟨i, ⟨⟩⟩, ⟨⟨⟨ys', E', D'⟩, ⟨⟩⟩, ⟨⟨w, ⟨⟩⟩, ⟨⟩⟩⟩⟩ ⟨k, hk, hkl, hD, hy, he, hwl⟩
    dsimp only at hk hD hy he hwl
    subst hk hD
    have hd : (k : Int) < (t.length : Int) → List.drop k t = t.getD k 0 :: List.drop (k + 1) t := fun h => by
      have h' : k < t.length := by omega
      rw [List.drop_eq_getElem_cons h', List.getD_eq_getElem?_getD, List.getElem?_eq_getElem h']; rfl
    repeat' (first | with_reducible refine And.intro ?_ ?_ | ((try with_reducible refine gv_more ?_); first | ((with_reducible show K_ _); (try dsimp +instances only); (with_reducible refine hK_ _ ?_); clear hK_ K_) | with_reducible refine st ?_ | ((with_reducible refine sr ?_); intro K_ hK_; conv => whnf) | ((with_reducible refine w_cond ?_); (conv => arg 2; whnf); with_reducible refine st ?_) | refine blockK_y (by rfl) ?_ | ((with_reducible refine sw ?_); conv => whnf)) | ((with_reducible refine gv_more ?_); conv => whnf) | (intro hc; (try dsimp +instances only [Dat, SDat, dflt, Ty.size, keepS, bkUpd, Gv.bk, backS, wayA, maxI, minI, negI] at hc); (try simp only [LS] at hc)))
    all_goals (try ((fail_if_success with_reducible refine nl ?_); (try dsimp only [Dat, SDat, dflt, Ty.size, keepS, bkUpd, Gv.bk, backS, wayA, maxI, minI, negI]); (try simp only [LS]); first | done | exact dsc | ((try simp only [allP, lo, hi, room, true_and, and_true, implies_true]); (repeat' (first | with_reducible refine And.intro ?_ ?_ | ((with_reducible refine preA_t ?_ ?_); rotate_left; exact sameP_t) | intro hv)) <;> (try omega))))
    · rename_i h1
      rw [hd h1, words_cons, if_neg hc] at hy
      exact ⟨k + 1, by omega, by omega, hy, he, by omega⟩
    · rename_i h1 h2
      rw [hd h1, words_cons, if_pos h2, if_neg hc] at hy
      rw [hy]; rfl
    · rename_i h1 h2 q hq
      refine w_it 10 _ _ (by rfl) ?_
      by_cases hw : w = []
      · rw [if_pos hw] at hq; rw [hq.1] at hc; cases hc
      · rw [if_neg hw] at hq ⊢
        rw [hc] at hq ⊢
        exact ⟨rfl, hq⟩
    · rename_i h1 h2 q hq
      have hc' : q.1 = true := (Bool.eq_false_or_eq_true q.1).resolve_right hc
      rw [hd h1, words_cons, if_pos h2] at hy
      refine ⟨k + 1, by omega, by omega, ?_, ?_, by omega⟩
      · by_cases hw : w = []
        · rw [if_pos hw] at hy ⊢; exact hy
        · rw [if_neg hw] at hy ⊢; rw [hc', hy]; rfl
      · by_cases hw : w = []
        · rw [if_pos hw] at hq ⊢; rw [hq.2]; exact he
        · rw [if_neg hw] at hq ⊢; exact hq
    · rename_i h1
      have hk' : k = t.length := by omega
      rw [hk', List.drop_length, words_nil, if_neg hc] at hy
      rw [hy]; rfl
    · rename_i h1 q
      have hk' : k = t.length := by omega
      rw [hk', List.drop_length, words_nil] at hy
      refine w_it 10 _ _ (by rfl) ?_
      by_cases hw : w = []
      · rw [if_pos hw] at hc hy ⊢
        rw [hc.2, hy]
        exact ⟨rfl, by rw [hy] at he; exact he⟩
      · rw [if_neg hw] at hc hy ⊢
        rw [hy] at hc ⊢
        cases hq : q.1 <;> rw [hq] at hc <;> exact ⟨rfl, hc⟩
theorem ok_words_all_1 : ItOK SP glob fi_words_all_1 S_words_all_1 := mk_it (c := c_words_all_1) (tab_ok _) mix_ok wf_words_all_1 (by decide) (.cons ok_words_lower .nil) (LateOK.of rfl (.cons ok_words_all_1_1 .nil) .nil) rfl rfl g_words_all_1
end Go.Gv
