/- A verified generator of conditions over the code of the model. Part 5. -/
import Derived.Test.YtnnifeeieoghfaaDoorGd
import Derived.Deep.Slices
import Derived.OpenShut
import Derived.ReadAgain
import Derived.ProofKit
import Derived.Lib.ItoaLen
import Derived.Deep.DeepHandedRow
import Derived.Lib.LaidTab
set_option linter.all false

/- The state at the head of a loop: at the entry and behind each round. -/
namespace Go.Gv
open Go

theorem ltN_mem {nx h : Nat} : ∀ {l : List Nat}, h ∈ ltN nx l ↔ h ∈ l ∧ h < nx
  | [] => by simp [ltN]
  | a :: r => by
    unfold ltN
    split
    · rename_i hb
      have hb : a < nx := Nat.le_of_ble_eq_true hb
      rw [List.mem_cons, List.mem_cons, ltN_mem]
      constructor
      · rintro (rfl | ⟨h1, h2⟩)
        · exact ⟨.inl rfl, hb⟩
        · exact ⟨.inr h1, h2⟩
      · rintro ⟨rfl | h1, h2⟩
        · exact .inl rfl
        · exact .inr ⟨h1, h2⟩
    · rename_i hb
      have hb : ¬ a < nx := fun hlt => by
        have : Nat.blt a nx = true := Nat.ble_eq_true_of_le hlt
        rw [this] at hb; cases hb
      rw [List.mem_cons, ltN_mem]
      constructor
      · rintro ⟨h1, h2⟩; exact ⟨.inr h1, h2⟩
      · rintro ⟨rfl | h1, h2⟩
        · exact (hb h2).elim
        · exact ⟨h1, h2⟩

theorem hpf_hset (rs : RS) (h : Nat) : rs.hpf h = hset (fun _ => .none) rs.hp h := by
  unfold RS.hpf
  generalize rs.hp = l
  induction l with
  | nil => rfl
  | cons e r ih =>
    obtain ⟨k, o⟩ := e
    rw [lookN_cons]
    simp only [hset]
    by_cases hk : h = k
    · rw [if_pos hk, if_pos hk]
    · rw [if_neg hk, if_neg hk]; exact ih

theorem dropS_spec {ds : List Nat} : ∀ {l : List (Nat × PA)} {s : Nat} {p : PA}, lookN (dropS ds l) s = some p → s ∉ ds ∧ lookN l s = some p
  | [], s, p, h => by cases h
  | (k, q) :: r, s, p, h => by
    unfold dropS at h
    split at h
    · rename_i hm
      obtain ⟨h1, h2⟩ := dropS_spec h
      have hne : ¬ s = k := fun e => h1 (e ▸ memN_iff.1 hm)
      exact ⟨h1, by rw [lookN_cons, if_neg hne]; exact h2⟩
    · rename_i hm
      rw [lookN_cons] at h ⊢
      by_cases hk : s = k
      · rw [if_pos hk] at h ⊢
        exact ⟨by rw [hk]; exact memN_false hm, h⟩
      · rw [if_neg hk] at h ⊢
        exact dropS_spec h

theorem putS_spec {nm : Nat → Nat} {β : Asg} {G : GW} {a : Act} : ∀ (S : List (Nat × Sh)) (x : SDat (shS S)) (n : Nat) (r : List (Nat × PA)), satT (intoA nm (shS S) x n) β G (S.map (fun p => a.tmps.getD p.1 undef)) →
    ∀ s p, lookN (putS nm S x n r) s = some p → (p.path = [] ∧ sat p.ap β G (a.tmps.getD s undef)) ∨ lookN r s = some p
  | [], x, n, r, h, s, p, hp => .inr hp
  | (k, sh) :: l, x, n, r, h, s, p, hp => by
    change satT (.cons (intoA nm sh x.1 n) (intoA nm (shS l) x.2 (n + nn sh))) β G (a.tmps.getD k undef :: l.map (fun p => a.tmps.getD p.1 undef)) at h
    unfold satT at h
    obtain ⟨v, l', e, h1, h2⟩ := h
    cases e
    unfold putS at hp
    rw [lookN_cons] at hp
    by_cases hk : s = k
    · rw [if_pos hk] at hp
      simp only [Option.some.injEq] at hp; subst hp
      exact .inl ⟨rfl, by rw [hk]; exact h1⟩
    · rw [if_neg hk] at hp
      exact putS_spec l x.2 (n + nn sh) r h2 s p hp

theorem getS_sat {C : Ctx} {rs : RS} {β : Asg} {a : Act} {G : GW} (S0 : Sim C rs β a G) : ∀ (S : List (Nat × Sh)), satT (getS rs.slf S) β G (S.map (fun p => a.tmps.getD p.1 undef))
  | [] => by unfold getS satT; rfl
  | (k, sh) :: l => by
    show satT (.cons (rs.slf k).ap (getS rs.slf l)) β G (a.tmps.getD k undef :: l.map (fun p => a.tmps.getD p.1 undef))
    unfold satT
    refine ⟨_, _, rfl, ((S0.holds (fun _ => false)).slots k).1 (fun e he => ?_), getS_sat S0 l⟩
    have := S0.flat k
    have he' : e ∈ (rs.slf k).path := he
    rw [this] at he'; cases he'

theorem Sim.inv {C : Ctx} {rs : RS} {β : Asg} {a : Act} {G : GW} (S0 : Sim C rs β a G) : HInv C rs.hpf β G := (S0.holds (fun _ => false)).inv

theorem Sim.lt {C : Ctx} {rs : RS} {β : Asg} {a : Act} {G : GW} (S0 : Sim C rs β a G) {h : Nat} {v : Value} (e : β h = some v) : h < rs.nx := by
  rcases Nat.lt_or_ge h rs.nx with hl | hl
  · exact hl
  · rw [S0.inv.heap.no h (S0.fresh h hl)] at e; cases e

theorem loopIn_spec {S B : List (Nat × Sh)} {rs : RS} {x : SDat (shL S B)} {ns : List Nat} {ex : List (Nat × HObj)} {nx : Nat} (h : loopIn S B rs = some ⟨x, ns, ex, nx⟩) : fromA rs.hpf (shL S B) (.cons (getS rs.slf S) (locB B)) rs.nx = some ⟨x, ns, ex, nx⟩ ∧ ns.Nodup ∧
    ∃ N1 N2 ex1 ex2 nx1, fromA rs.hpf (shS S) (getS rs.slf S) rs.nx = some ⟨x.1, N1, ex1, nx1⟩ ∧ fromA rs.hpf (shB B) (locB B) nx1 = some ⟨x.2, N2, ex2, nx⟩ ∧ ns = N1 ++ N2 ∧ ex = ex1 ++ ex2 := by
  unfold loopIn at h
  split at h
  · rename_i fr hfr
    split at h
    · rename_i hnd
      simp only [Option.some.injEq] at h; subst h
      refine ⟨hfr, nodupN_iff.1 hnd, ?_⟩
      have hfr' := hfr
      change fromA rs.hpf (.cons (shS S) (shB B)) (.cons (getS rs.slf S) (locB B)) rs.nx = _ at hfr'
      unfold fromA at hfr'
      dsimp only at hfr'
      split at hfr'
      · rename_i y ys ey nx1 hy
        split at hfr'
        · rename_i z zs ez nx2 hz
          simp only [Option.some.injEq, Fr.mk.injEq] at hfr'
          obtain ⟨rfl, rfl, rfl, rfl⟩ := hfr'
          exact ⟨ys, zs, ey, ez, nx1, hy, hz, rfl, rfl⟩
        · cases hfr'
      · cases hfr'
    · cases h
  · cases h

theorem loop_state {C : Ctx} {rs : RS} {β0 : Asg} {a0 : Act} {G0 : GW} (S0 : Sim C rs β0 a0 G0) {S B : List (Nat × Sh)} {x0 : SDat (shL S B)} {ns0 : List Nat} {ex0 : List (Nat × HObj)} {n0 : Nat} (h0 : loopIn S B rs = some ⟨x0, ns0, ex0, n0⟩)
    {rs' : RS} {β' : Asg} {a' : Act} {G' : GW} (S1 : Sim C rs' β' a' G') (hb : β0.le β') (hgl : G0.le G') {x' : SDat (shL S B)} {ns' : List Nat} {ex' : List (Nat × HObj)} {n' : Nat} (h1 : loopIn S B rs' = some ⟨x', ns', ex', n'⟩) (hnx : rs.nx ≤ rs'.nx)
    (hh : ∀ h, h < rs.nx → h ∉ ns0 → rs'.hpf h = rs.hpf h) (hn : ∀ h ∈ ns', h < rs.nx → h ∈ ns0) (ds : List Nat) (hs : ∀ s, s ∉ ds → a'.tmps.getD s undef = a0.tmps.getD s undef) :
    ∃ β'', Sim C (loopHead S B ds rs ns0 x') β'' a' G' ∧ β0.le β'' := by
  obtain ⟨f0, nd0, _, M2, _, _, _, _, fB0, e0, _⟩ := loopIn_spec h0
  obtain ⟨f1, nd1, N1, N2, ex1, ex2, nx1, fS1, fB1, e1, ee1⟩ := loopIn_spec h1
  obtain ⟨βx, Hx, lx, car, _, hns, hfx, _, hlen, hold, hexs⟩ := take_in S1.inv S1.fresh f1
  have car1 := fromA_trans S1.inv.hs hold (shS S) (getS rs'.slf S) rs'.nx x'.1 N1 ex1 nx1 fS1 (fun h o hm => hexs h o (by rw [ee1]; exact List.mem_append_left _ hm))
  obtain ⟨k1, k2⟩ := locB_roots B _ _ _ _ _ fB0
  obtain ⟨m1, m2⟩ := locB_roots B _ _ _ _ _ fB1
  have hBlt : ∀ h ∈ keysS B, h < rs.nx := fun h hm => by
    rcases Nat.lt_or_ge h rs.nx with hl | hl
    · exact hl
    · exact ((k2 h hm).2 (S0.fresh h hl)).elim
  have hroot : ∀ (k h : Nat), (rootsL S B)[k]? = some (some h) → ns'[k]? = some h ∧ h < rs.nx := fun k h hk => by
    unfold rootsL at hk
    by_cases hlt : k < nn (shS S)
    · rw [List.getElem?_append_left (by simpa using hlt), List.getElem?_replicate, if_pos hlt] at hk; cases hk
    · rw [List.getElem?_append_right (by simp; omega), List.length_replicate] at hk
      obtain ⟨g1, g2, _⟩ := m1 _ h hk
      refine ⟨?_, hBlt h g2⟩
      rw [e1, List.getElem?_append_right (by rw [car1.len]; omega), car1.len]; exact g1
  have hex_ge : ∀ h ∈ keysH ex', rs'.nx ≤ h := fun h hk => by
    obtain ⟨o, hm⟩ := mem_keys hk
    exact ((fromA_ex _ _ _ _ _ _ _ f1).2.2.1 h o hm).1
  have hns0 : ∀ h ∈ ns0, h < rs.nx → ∃ v, β0 h = some v := fun h hm hl => by
    rcases (fromA_ex _ _ _ _ _ _ _ f0).2.2.2 h hm with hne | hk
    · obtain ⟨v, hv, _⟩ := S0.inv.heap.sat h hne; exact ⟨v, hv⟩
    · obtain ⟨o, hm'⟩ := mem_keys hk
      have := ((fromA_ex _ _ _ _ _ _ _ f0).2.2.1 h o hm').1
      omega
  let hpr : Nat → HObj := fun h => if h ∈ ltN rs.nx ns0 then .dead else rs.hpf h
  obtain ⟨q1, q2, q3, q4⟩ := loop_rebind Hx car nd1 (fun h hm => (hns h hm).2) (R := rootsL S B) (nx := rs.nx) (rootsL_len S B) hroot hpr (fun h hge => by
      show (if h ∈ ltN rs.nx ns0 then HObj.dead else rs.hpf h) = .none
      rw [if_neg (fun hm => by have := (ltN_mem.1 hm).2; omega)]
      exact S0.fresh h hge) (fun h hl => by
      by_cases hm : h ∈ ns0
      · refine .inl ⟨if_pos (ltN_mem.2 ⟨hm, hl⟩), ?_⟩
        obtain ⟨v, hv⟩ := hns0 h hm hl
        exact ⟨v, lx h v (hb h v hv)⟩
      · have hpe : hpr h = rs.hpf h := if_neg (fun hm' => hm (ltN_mem.1 hm').1)
        have hke : h ∉ keysH ex' := fun hk => by have := hex_ge h hk; omega
        have hxe : hset rs'.hpf ex' h = rs.hpf h := by rw [hset_not hke]; exact hh h hl hm
        refine .inr ⟨hpe.trans hxe.symm, fun hm' => hm (hn h hm' hl), fun cs hcs n hnm => ?_⟩
        rw [hxe] at hcs
        obtain ⟨v, _, hsat⟩ := S0.inv.heap.sat h (by rw [hcs]; simp)
        rw [hcs] at hsat
        obtain ⟨b, l, _, hl', _⟩ := hsat
        rcases satL_nm cs (l := []) hl' n hnm with hc | hc
        · cases hc
        · obtain ⟨u, hu⟩ := Option.isSome_iff_exists.1 hc
          exact S0.lt hu)
  have hhp : ∀ h, (loopHead S B ds rs ns0 x').hpf h = hset hpr (intoH (nmL (rootsL S B) rs.nx) (shL S B) x' 0 []) h := fun h => by
    rw [hpf_hset]
    show hset (fun _ => HObj.none) (intoH (nmL (rootsL S B) rs.nx) (shL S B) x' 0 (deadL (ltN rs.nx ns0) rs.hp)) h = _
    rw [intoH_eq, intoH_eq, hset_zipN]
    refine hset_zip_congr _ _ (fun n => ?_) _ _
    rw [hset_deadL]
    show (if n ∈ ltN rs.nx ns0 then HObj.dead else hset (fun _ => HObj.none) rs.hp n) = (if n ∈ ltN rs.nx ns0 then HObj.dead else rs.hpf n)
    rw [hpf_hset]
  have hle0 : β0.le (βL βx (rootsL S B) ns' rs.nx) := fun h v e => by
    rw [q2 h (S0.lt e)]
    exact lx h v (hb h v e)
  obtain ⟨_, _, c3, _⟩ := car1.go (nmL (rootsL S B) rs.nx) 0 (βL βx (rootsL S B) ns' rs.nx) (fun k m hk => q3 k m (by rw [e1, List.getElem?_append_left (List.getElem?_eq_some_iff.1 hk).1]; exact hk))
  have hslots := putS_spec (a := a') S x'.1 0 (dropS ds rs.sl) (c3 _ (getS_sat S1 S))
  have hsl : ∀ s, ((loopHead S B ds rs ns0 x').slf s).path = [] ∧ sat ((loopHead S B ds rs ns0 x').slf s).ap (βL βx (rootsL S B) ns' rs.nx) G' (a'.tmps.getD s undef) := fun s => by
    show (match lookN (putS (nmL (rootsL S B) rs.nx) S x'.1 0 (dropS ds rs.sl)) s with | some p => p | none => (⟨[], .any⟩ : PA)).path = [] ∧ sat (match lookN (putS (nmL (rootsL S B) rs.nx) S x'.1 0 (dropS ds rs.sl)) s with | some p => p | none => (⟨[], .any⟩ : PA)).ap _ G' _
    cases hl : lookN (putS (nmL (rootsL S B) rs.nx) S x'.1 0 (dropS ds rs.sl)) s with
    | none => exact ⟨rfl, by unfold sat; trivial⟩
    | some p =>
      dsimp only
      rcases hslots s p hl with hp | hp
      · exact hp
      · obtain ⟨hd, hp⟩ := dropS_spec hp
        have hps : rs.slf s = p := by unfold RS.slf; rw [hp]
        have hfl := S0.flat s
        rw [hps] at hfl
        refine ⟨hfl, ?_⟩
        rw [hs s hd]
        have := ((S0.holds (fun _ => false)).slots s).1
        dsimp only at this
        rw [hps] at this
        exact sat.mono _ (this (fun e he => by rw [hfl] at he; cases he)) hle0 hgl
  refine ⟨βL βx (rootsL S B) ns' rs.nx, ⟨fun γ => ⟨fun s => ⟨fun _ => (hsl s).2, fun hn => (hn (fun e he => ?_)).elim⟩, (S1.holds γ).size, (S1.holds γ).defers, ?_⟩, fun s => (hsl s).1, fun n hn => ?_, rfl, rfl, rfl⟩, hle0⟩
  · have := (hsl s).1
    have he' : e ∈ ((loopHead S B ds rs ns0 x').slf s).path := he
    rw [this] at he'; cases he'
  · show HInv C (loopHead S B ds rs ns0 x').hpf _ G'
    rw [funext hhp]; exact q1
  · rw [hhp]; exact q4 n hn
end Go.Gv

/- A BODY: what the generator asks for is enough. -/
namespace Go.Gv
open Go

/-- A loop with an invariant over data. -/
theorem wp_loop_x {P : Program} {Q : Exit → Act → World → Prop} {c : Code} {X : Type} (I : X → Act → World → Prop) (μ : X → Nat) {a : Act} {w : World} {x0 : X} (h0 : I x0 a w)
    (round : ∀ x a w, I x a w → c.wp P (Exit.then (fun a' w' => ∃ x', I x' a' w' ∧ μ x' < μ x) Q) a w) : (Code.loop c).wp P Q a w := by
  intro b k cs
  have key : ∀ n x a w, μ x = n → I x a w → ∃ e a' w', Q e a' w' ∧ Arrives P (lone (b.at a (.code c :: .inLoop c :: k)) cs w) b k cs e a' w' := by
    intro n
    induction n using Nat.strongRecOn with
    | _ n ih =>
      intro x a w hn hI
      obtain ⟨e, a₁, w₁, hq, harr⟩ := round x a w hI b (.inLoop c :: k) cs
      cases e with
      | normal =>
        obtain ⟨x', hI₁, hlt⟩ := hq
        obtain ⟨e₂, a₂, w₂, hq₂, harr₂⟩ := ih (μ x') (hn ▸ hlt) x' a₁ w₁ rfl hI₁
        exact ⟨e₂, a₂, w₂, hq₂, .of_steps (Steps.trans harr (.one step_inLoop)) harr₂⟩
      | exit id => exact ⟨_, a₁, w₁, hq, .pass (x := .inLoop c) rfl (fun _ _ => .inl (by simp)) harr⟩
      | goto l => exact ⟨_, a₁, w₁, hq, .pass (x := .inLoop c) rfl (fun _ _ => .inl (by simp)) harr⟩
      | ret => exact ⟨_, a₁, w₁, hq, .pass (x := .inLoop c) rfl (fun _ _ => .inl (by simp)) harr⟩
      | panic ch => exact ⟨_, a₁, w₁, hq, .pass (x := .inLoop c) rfl (fun _ _ => .inl (by simp)) harr⟩
      | outgrown => exact ⟨_, a₁, w₁, hq, .pass (x := .inLoop c) rfl (fun _ _ => .inl (by simp)) harr⟩
  obtain ⟨e, a', w', hq, harr⟩ := key _ x0 a w rfl h0
  exact ⟨e, a', w', hq, .of_steps (.one step_loop) harr⟩

theorem dstsO_mem : ∀ (L : List Oper) (l : List Nat) (s : Nat), s ∈ dstsO L l ↔ (∃ o ∈ L, o.dst = some s) ∨ s ∈ l
  | [], l, s => by simp [dstsO]
  | o :: r, l, s => by
    unfold dstsO
    rw [dstsO_mem r]
    cases hd : o.dst with
    | none =>
      constructor
      · rintro (⟨o', h1, h2⟩ | h)
        · exact .inl ⟨o', List.mem_cons_of_mem _ h1, h2⟩
        · exact .inr h
      · rintro (⟨o', h1, h2⟩ | h)
        · rcases List.mem_cons.1 h1 with rfl | h1
          · rw [hd] at h2; cases h2
          · exact .inl ⟨o', h1, h2⟩
        · exact .inr h
    | some d =>
      constructor
      · rintro (⟨o', h1, h2⟩ | h)
        · exact .inl ⟨o', List.mem_cons_of_mem _ h1, h2⟩
        · rcases List.mem_cons.1 h with rfl | h
          · exact .inl ⟨o, List.mem_cons_self, hd⟩
          · exact .inr h
      · rintro (⟨o', h1, h2⟩ | h)
        · rcases List.mem_cons.1 h1 with rfl | h1
          · rw [hd] at h2; cases h2; exact .inr List.mem_cons_self
          · exact .inl ⟨o', h1, h2⟩
        · exact .inr (List.mem_cons_of_mem _ h)

theorem dsts_mem (c : Code) : ∀ (l : List Nat) (s : Nat), s ∈ dsts c l ↔ s ∈ dsts c [] ∨ s ∈ l := by
  induction c with
  | region id ops d => intro l s; simp only [dsts]; rw [dstsO_mem, dstsO_mem]; simp
  | seq a b iha ihb => intro l s; simp only [dsts]; rw [iha, ihb, iha (dsts b [])]; constructor
                       · rintro (h | h | h)
                         · exact .inl (.inl h)
                         · exact .inl (.inr h)
                         · exact .inr h
                       · rintro ((h | h) | h)
                         · exact .inl h
                         · exact .inr (.inl h)
                         · exact .inr (.inr h)
  | cond x a b iha ihb => intro l s; simp only [dsts]; rw [iha, ihb, iha (dsts b [])]; constructor
                          · rintro (h | h | h)
                            · exact .inl (.inl h)
                            · exact .inl (.inr h)
                            · exact .inr h
                          · rintro ((h | h) | h)
                            · exact .inl h
                            · exact .inr (.inl h)
                            · exact .inr (.inr h)
  | block id b ih => intro l s; simp only [dsts]; exact ih l s
  | loop b ih => intro l s; simp only [dsts]; exact ih l s
  | scope b ih => intro l s; simp only [dsts]; exact ih l s
  | _ => intro l s; simp [dsts]

theorem wrOK_spec {B : List Nat} {nx : Nat} : ∀ {l : List Nat}, wrOK B nx l = true → ∀ h ∈ l, h ∈ B ∨ nx ≤ h
  | [], _, h, hm => by cases hm
  | a :: r, hw, h, hm => by
    unfold wrOK at hw
    have hr : (a ∈ B ∨ nx ≤ a) ∧ wrOK B nx r = true := by
      split at hw
      · cases hw
      · rename_i hne
        refine ⟨?_, hw⟩
        cases h1 : memN B a with
        | true => exact .inl (memN_iff.1 h1)
        | false =>
          cases h2 : Nat.ble nx a with
          | true => exact .inr (Nat.le_of_ble_eq_true h2)
          | false => exact (hne h1 h2).elim
    rcases List.mem_cons.1 hm with rfl | hm
    · exact hr.1
    · exact wrOK_spec hr.2 h hm

def toExit : Ex → Exit
  | .normal => .normal
  | .exit id => .exit id
  | .ret => .ret

theorem addWr_sim {C : Ctx} {rs : RS} {l : List Nat} {β : Asg} {a : Act} {G : GW} (h : Sim C rs β a G) : Sim C (addWr l rs) β a G := by
  cases rs; exact ⟨h.holds, h.flat, h.fresh, h.gd, h.vc, h.tr⟩

section
variable {P : Program} {c : Cf} (hE : c.E.ok P = true) (hS : SpecsOK P c.gl c.F) (hmix : P.follows .mixedOrders = true) {C : Ctx} (hg : C.glob = c.gl) (hN : C.N = c.N)
include hE hS hmix hg hN

/-- THE GENERATOR IS SOUND. -/
theorem wpA_sound : ∀ (code : Code) (rs : RS) (K : Ex → RS → Prop) (β : Asg) (a : Act) (G : GW) (Q : Exit → Act → World → Prop), wpA c code rs K → Sim C rs β a G →
    (∀ e rs' β' a' G', K e rs' → Sim C rs' β' a' G' → β.le β' → G.le G' → Ext rs rs' → (∀ s, s ∉ dsts code [] → a'.tmps.getD s undef = a.tmps.getD s undef) → Q (toExit e) a' G'.w) → code.wp P Q a G.w := by
  intro code
  induction code with
  | skip => exact fun rs K β a G Q h hs hQ => wp_skip (hQ .normal rs β a G h hs (Asg.le_refl β) G.le_refl (Ext.refl rs) (fun _ _ => rfl))
  | region id ops draw =>
    intro rs K β a G Q h hs hQ
    refine region_wp hE hS hmix hg hN h hs fun rs' β' a' G' hK hs' hb hgl hext hsm => hQ .normal rs' β' a' G' hK hs' hb hgl hext fun s hsn => hsm s fun o ho hd => hsn ?_
    simp only [dsts]
    exact (dstsO_mem _ _ _).2 (.inl ⟨o, ho, hd⟩)
  | seq x y ihx ihy =>
    intro rs K β a G Q h hs hQ
    have hd : ∀ s, s ∉ dsts (x.seq y) [] → s ∉ dsts x [] ∧ s ∉ dsts y [] := fun s hn => by
      simp only [dsts] at hn
      rw [dsts_mem] at hn
      exact ⟨fun h => hn (.inl h), fun h => hn (.inr h)⟩
    refine wp_seq (ihx rs _ β a G _ h hs fun e rs' β' a' G' hK hs' hb hgl hext hsm => ?_)
    cases e with
    | normal =>
      exact ihy rs' K β' a' G' Q hK hs' fun e' rs'' β'' a'' G'' hK' hs'' hb' hgl' hext' hsm' =>
        hQ e' rs'' β'' a'' G'' hK' hs'' (Asg.le_trans hb hb') (GW.le_trans hgl hgl') (hext.trans hext') fun s hn => (hsm' s (hd s hn).2).trans (hsm s (hd s hn).1)
    | exit i => exact hQ (.exit i) rs' β' a' G' hK hs' hb hgl hext fun s hn => hsm s (hd s hn).1
    | ret => exact hQ .ret rs' β' a' G' hK hs' hb hgl hext fun s hn => hsm s (hd s hn).1
  | cond x t e iht ihe =>
    intro rs K β a G Q h hs hQ
    have hd : ∀ s, s ∉ dsts (Code.cond x t e) [] → s ∉ dsts t [] ∧ s ∉ dsts e [] := fun s hn => by
      simp only [dsts] at hn
      rw [dsts_mem] at hn
      exact ⟨fun h => hn (.inl h), fun h => hn (.inr h)⟩
    have hx : sat (opA c.gl rs.slf [] x) β G (a.eval x) := opA_sat hg (hs.holds (fun _ => false)) (fun e he => by cases he) x (fun _ _ => rfl)
    have ht : wpA c t rs K → t.wp P Q a G.w := fun h => iht rs K β a G Q h hs fun e rs' β' a' G' hK hs' hb hgl hext hsm => hQ e rs' β' a' G' hK hs' hb hgl hext fun s hn => hsm s (hd s hn).1
    have he : wpA c e rs K → e.wp P Q a G.w := fun h => ihe rs K β a G Q h hs fun e rs' β' a' G' hK hs' hb hgl hext hsm => hQ e rs' β' a' G' hK hs' hb hgl hext fun s hn => hsm s (hd s hn).2
    simp only [wpA] at h
    split at h
    · rename_i heq
      rw [heq] at hx; unfold sat at hx
      exact wp_cond_true hx (ht h)
    · rename_i heq
      rw [heq] at hx; unfold sat at hx
      exact wp_cond_false hx (he h)
    · split at h
      · rename_i p hp
        obtain ⟨b, hb, hiff⟩ := prop_val (propOf_sat hp hx)
        refine wp_cond_split hb (fun h1 => ht (h.1 (hiff.1 h1)).out) (fun h1 => he (h.2 fun hpp => ?_).out)
        rw [hiff.2 hpp] at h1; cases h1
      · exact h.elim
  | block id b ih =>
    intro rs K β a G Q h hs hQ
    refine wp_block (ih rs _ β a G _ h hs fun e rs' β' a' G' hK hs' hb hgl hext hsm => ?_)
    have hsm' : ∀ s, s ∉ dsts (Code.block id b) [] → a'.tmps.getD s undef = a.tmps.getD s undef := fun s hn => hsm s (by simpa only [dsts] using hn)
    cases e with
    | normal => exact hQ .normal rs' β' a' G' hK hs' hb hgl hext hsm'
    | ret => exact hQ .ret rs' β' a' G' hK hs' hb hgl hext hsm'
    | exit i =>
      show (if i = id then Q .normal a' G'.w else Q (.exit i) a' G'.w)
      dsimp only at hK
      split at hK
      · rename_i hbq
        rw [if_pos (Nat.eq_of_beq_eq_true hbq)]
        exact hQ .normal rs' β' a' G' hK hs' hb hgl hext hsm'
      · rename_i hbq
        rw [if_neg (fun e => by subst e; simp at hbq)]
        exact hQ (.exit i) rs' β' a' G' hK hs' hb hgl hext hsm'
  | loop b ih =>
    intro rs K β a G Q h hs hQ
    simp only [wpA] at h
    obtain ⟨S, B, inv, μ, h⟩ := h
    split at h
    · rename_i x0 ns0 ex0 n0 hin
      obtain ⟨hinv0, hround⟩ := h
      obtain ⟨_, _, _, _, _, _, _, _, fB0, e0, _⟩ := loopIn_spec hin
      obtain ⟨_, k2⟩ := locB_roots B _ _ _ _ _ fB0
      have hB : ∀ n ∈ keysS B, n ∈ ns0 := fun n hn => by rw [e0]; exact List.mem_append_right _ (k2 n hn).1
      obtain ⟨β1, S1, hb1⟩ := loop_state hs hin hs (Asg.le_refl β) G.le_refl hin (Nat.le_refl _) (fun _ _ _ => rfl) (fun _ h _ => h) (dsts b []) (fun _ _ => rfl)
      refine wp_loop_x (fun x a' w' => inv x ∧ ∃ β' G', G'.w = w' ∧ Sim C (loopHead S B (dsts b []) rs ns0 x) β' a' G' ∧ β.le β' ∧ G.le G' ∧ ∀ s, s ∉ dsts b [] → a'.tmps.getD s undef = a.tmps.getD s undef) μ (x0 := x0) ⟨hinv0, β1, G, rfl, S1, hb1, G.le_refl, fun _ _ => rfl⟩ ?_
      rintro x a2 w2 ⟨hinv, β2, G2, rfl, S2, hb2, hg2, hsm2⟩
      have hheadhp : ∀ n, n < rs.nx → n ∉ ns0 → (loopHead S B (dsts b []) rs ns0 x).hpf n = rs.hpf n := fun n hn hnn => head_hpf hs hin hn hnn
      refine ih _ _ β2 a2 G2 _ (by have := (hround x hinv).out; rw [forceRS_eq] at this; exact this) S2 fun e rs' β' a' G' hK hs' hb hgl hext hsm => ?_
      have hnxle : rs.nx ≤ rs'.nx := Nat.le_trans (Nat.le_add_right _ _) hext.nx
      cases e with
      | normal =>
        dsimp only at hK
        split at hK
        · rename_i x' ns' ex' n' hin' hwr
          split at hK
          · rename_i hwr'
            obtain ⟨hinv', hμ⟩ := hK
            have hw := wrOK_spec hwr
            have hw' := wrOK_spec hwr'
            have hsm3 : ∀ s, s ∉ dsts b [] → a'.tmps.getD s undef = a.tmps.getD s undef := fun s hn => (hsm s hn).trans (hsm2 s hn)
            obtain ⟨β3, S3, hb3⟩ := loop_state hs hin hs' (Asg.le_trans hb2 hb) (GW.le_trans hg2 hgl) hin' hnxle (fun n hn hnn => by
                rw [hext.hpf n (Nat.lt_of_lt_of_le hn (Nat.le_add_right _ _)) (fun hm => (hw n hm).elim (fun h => hnn (hB n h)) (fun h => by omega))]
                exact hheadhp n hn hnn) (fun n hn hlt => (hw' n hn).elim (hB n) (fun h => by omega)) (dsts b []) hsm3
            exact ⟨x', ⟨hinv', β3, G', rfl, S3, hb3, GW.le_trans hg2 hgl, hsm3⟩, hμ⟩
          · exact hK.elim
        · exact hK.elim
      | exit i =>
        refine hQ (.exit i) _ β' a' G' hK (addWr_sim hs') (Asg.le_trans hb2 hb) (GW.le_trans hg2 hgl) (exit_ext hext hnxle hB hheadhp (Nat.le_add_right _ _)) fun s hn => ?_
        have hn' : s ∉ dsts b [] := by simpa only [dsts] using hn
        exact (hsm s hn').trans (hsm2 s hn')
      | ret =>
        refine hQ .ret _ β' a' G' hK (addWr_sim hs') (Asg.le_trans hb2 hb) (GW.le_trans hg2 hgl) (exit_ext hext hnxle hB hheadhp (Nat.le_add_right _ _)) fun s hn => ?_
        have hn' : s ∉ dsts b [] := by simpa only [dsts] using hn
        exact (hsm s hn').trans (hsm2 s hn')
    · exact h.elim
  | exit id => exact fun rs K β a G Q h hs hQ => wp_exit (hQ (.exit id) rs β a G h hs (Asg.le_refl β) G.le_refl (Ext.refl rs) (fun _ _ => rfl))
  | ret => exact fun rs K β a G Q h hs hQ => wp_ret (hQ .ret rs β a G h hs (Asg.le_refl β) G.le_refl (Ext.refl rs) (fun _ _ => rfl))
  | label l => exact fun rs K β a G Q h hs hQ => wp_label (hQ .normal rs β a G h hs (Asg.le_refl β) G.le_refl (Ext.refl rs) (fun _ _ => rfl))
  | _ => intro rs K β a G Q h hs hQ; simp only [wpA] at h
where
  exit_ext {rs hd rs' : RS} {ns B : List Nat} (hext : Ext hd rs') (hnx : rs.nx ≤ rs'.nx) (hB : ∀ n ∈ B, n ∈ ns) (hh : ∀ n, n < rs.nx → n ∉ ns → hd.hpf n = rs.hpf n) (hle : rs.nx ≤ hd.nx) : Ext rs (addWr (B ++ ns ++ rs.wr) rs') := by
    cases rs' with
    | mk sl hp nx gd vc tr wr =>
      refine ⟨fun n hn => List.mem_append_right _ (List.mem_append_right _ hn), fun n hn hnw => ?_, hnx⟩
      have h1 : n ∉ wr := fun h => hnw (List.mem_append_left _ h)
      have h2 : n ∉ ns := fun h => hnw (List.mem_append_right _ (List.mem_append_left _ (List.mem_append_right _ h)))
      exact (hext.hpf n (Nat.lt_of_lt_of_le hn hle) h1).trans (hh n hn h2)
  head_hpf {C : Ctx} {rs : RS} {β : Asg} {a : Act} {G : GW} (hs : Sim C rs β a G) {S B : List (Nat × Sh)} {x0 : SDat (shL S B)} {ns0 : List Nat} {ex0 : List (Nat × HObj)} {n0 : Nat} (hin : loopIn S B rs = some ⟨x0, ns0, ex0, n0⟩) {x : SDat (shL S B)} {ds : List Nat} {n : Nat} (hn : n < rs.nx) (hnn : n ∉ ns0) :
      (loopHead S B ds rs ns0 x).hpf n = rs.hpf n := by
    obtain ⟨f0, _, _, _, _, _, _, _, fB0, e0, _⟩ := loopIn_spec hin
    rw [hpf_hset]
    show hset (fun _ => HObj.none) (intoH (nmL (rootsL S B) rs.nx) (shL S B) x 0 (deadL (ltN rs.nx ns0) rs.hp)) n = _
    rw [intoH_eq]
    rcases hset_zipN_cases (nmL (rootsL S B) rs.nx) (fun _ => HObj.none) (objsA (nmL (rootsL S B) rs.nx) (shL S B) x 0) 0 (deadL (ltN rs.nx ns0) rs.hp) n with ⟨k, o, h1, h2, h3⟩ | ⟨h1, h2⟩
    · exfalso
      rw [Nat.zero_add] at h2
      by_cases hr : ∃ y, (rootsL S B)[k]? = some (some y)
      · obtain ⟨y, hr⟩ := hr
        rw [nmL_root hr] at h2
        subst h2
        obtain ⟨k1, _⟩ := locB_roots B _ _ _ _ _ fB0
        unfold rootsL at hr
        by_cases hlt : k < nn (shS S)
        · rw [List.getElem?_append_left (by simpa using hlt), List.getElem?_replicate, if_pos hlt] at hr; cases hr
        · rw [List.getElem?_append_right (by simp; omega), List.length_replicate] at hr
          exact hnn (by rw [e0]; exact List.mem_append_right _ (List.mem_of_getElem? (k1 _ _ hr).1))
      · rw [nmL_new (fun y e => hr ⟨y, e⟩)] at h2; omega
    · rw [h2, hset_deadL, if_neg (fun hm => hnn (ltN_mem.1 hm).1), ← hpf_hset]
end
end Go.Gv

/- What is known of data that lie in memory: numbers in their ranges, lists of bounded length. -/
namespace Go.Gv
open Go

def inRng (k : IntKind) (n : Int) : Prop := lo k ≤ n ∧ n ≤ hi k

def datOK : (t : Ty) → Dat t → Prop
  | .int k, n => inRng k n
  | .bool, _ => True
  | .str, s => s.length ≤ maxLen
  | .sl t, xs => List.length xs ≤ maxLen ∧ ∀ x ∈ xs, datOK t x
  | .nl, _ => True
  | .cs t r, x => datOK t x.1 ∧ datOK r x.2
  | .st fs, x => datOK fs x
  | .arr n t, xs => List.length xs = n ∧ ∀ x ∈ xs, datOK t x
  | .mp _ _, _ => True
  | .pt t, x => ∀ y, x = some y → datOK t y
  | .ot _, _ => True

theorem rep_ok : ∀ (t : Ty) {x : Dat t} {G : GW} {vs : List Value}, Rep t x G vs → datOK t x
  | .int _, _, _, _, h => has_iff.1 h.2
  | .bool, _, _, _, _ => trivial
  | .str, _, _, _, h => h.2
  | .sl t, xs, G, vs, h => by
    obtain ⟨base, cap, _, h1, h2, h3, h4⟩ := h
    refine ⟨Nat.le_trans h1 h2, fun x hx => ?_⟩
    obtain ⟨i, hi, rfl⟩ := List.getElem_of_mem hx
    cases base with
    | none => have := h3 rfl; omega
    | some a =>
      obtain ⟨cells, _, hr⟩ := (h4 a rfl).2 i _ (List.getElem?_eq_getElem hi)
      exact rep_ok t hr
  | .nl, _, _, _, _ => trivial
  | .cs t r, _, _, _, h => by
    obtain ⟨v1, v2, _, h1, h2⟩ := h
    exact ⟨rep_ok t h1, rep_ok r h2⟩
  | .st fs, _, _, _, h => by unfold Rep at h; exact rep_ok fs h
  | .arr n t, xs, G, vs, h => by
    obtain ⟨h1, _, h2⟩ := h
    refine ⟨h1, fun x hx => ?_⟩
    obtain ⟨i, hi, rfl⟩ := List.getElem_of_mem hx
    exact rep_ok t (h2 i _ (List.getElem?_eq_getElem hi))
  | .mp _ _, _, _, _, _ => trivial
  | .pt t, none, _, _, _ => fun y h => by cases h
  | .pt t, some x, _, _, h => by
    obtain ⟨_, _, _, _, _, hr⟩ := h
    intro y hy
    cases hy
    exact rep_ok t hr
  | .ot _, _, _, _, _ => trivial

def shOK : (s : Sh) → SDat s → Prop
  | .d t, x => datOK t x
  | .row t, xs => datOK (.sl t) xs
  | .spare t, xs => datOK (.sl t) xs
  | .map k v, m => ∀ e ∈ m, datOK k e.1 ∧ datOK v e.2
  | .box cs, x => shOK cs x
  | .clos _ cs, x => shOK cs x
  | .nilp, _ => True
  | .nil, _ => True
  | .cons a b, x => shOK a x.1 ∧ shOK b x.2

theorem row_ok {t : Ty} {xs : List (Dat t)} {v : Value} {β : Asg} {G : GW} (h : satH (.row t xs) v β G) : datOK (.sl t) xs := by
  obtain ⟨base, cap, rfl, h1, h2, h3, h4⟩ := h
  refine ⟨Nat.le_trans h1 h2, fun x hx => ?_⟩
  obtain ⟨i, hi, rfl⟩ := List.getElem_of_mem hx
  cases base with
  | none => have := h3 rfl; omega
  | some a =>
    obtain ⟨cells, _, hr⟩ := (h4 a rfl).2.2 i _ (List.getElem?_eq_getElem hi)
    exact rep_ok t hr

theorem objsA_ne (nm : Nat → Nat) : ∀ (s : Sh) (x : SDat s) (n : Nat), ∀ o ∈ objsA nm s x n, o ≠ HObj.none
  | .d _, _, _, o, h => by cases h
  | .row _, _, _, o, h => by simp [objsA] at h; subst h; simp
  | .spare _, _, _, o, h => by simp [objsA] at h; subst h; simp
  | .map _ _, _, _, o, h => by simp [objsA] at h; subst h; simp
  | .box cs, x, n, o, h => by
    rcases List.mem_cons.1 h with rfl | h
    · simp
    · exact objsA_ne nm cs x (n + 1) o h
  | .clos _ cs, x, n, o, h => objsA_ne nm cs x n o h
  | .nilp, _, _, o, h => by cases h
  | .nil, _, _, o, h => by cases h
  | .cons a b, x, n, o, h => by
    rcases List.mem_append.1 h with h | h
    · exact objsA_ne nm a x.1 n o h
    · exact objsA_ne nm b x.2 (n + nn a) o h

/-- What is handed over is in range. -/
theorem shOK_of {nm : Nat → Nat} {β : Asg} {G : GW} : ∀ (s : Sh) (x : SDat s) (n : Nat), (∀ (k : Nat) (o : HObj), (objsA nm s x n)[k]? = some o → ∃ v, satH o v β G) →
    ((∃ v, sat (intoA nm s x n) β G v) ∨ (∃ l, satL (intoA nm s x n) β G l) ∨ ∃ l, satT (intoA nm s x n) β G l) → shOK s x
  | .d t, x, n, ho, hs => by
    rcases hs with ⟨v, h⟩ | ⟨l, h⟩ | ⟨l, h⟩
    · unfold intoA sat at h; exact rep_ok t h.2
    · unfold intoA satL at h; exact h.elim
    · unfold intoA satT at h; exact h.elim
  | .row t, xs, n, ho, hs => by
    obtain ⟨v, h⟩ := ho 0 _ rfl
    exact row_ok h
  | .spare t, xs, n, ho, hs => by
    rcases hs with ⟨v, h⟩ | ⟨l, h⟩ | ⟨l, h⟩
    · unfold intoA sat at h; exact rep_ok (.sl t) h.2.2
    · unfold intoA satL at h; exact h.elim
    · unfold intoA satT at h; exact h.elim
  | .map k v, m, n, ho, hs => by
    obtain ⟨u, h⟩ := ho 0 _ rfl
    obtain ⟨b, es, c, _, _, h1, h2⟩ := h
    intro e he
    obtain ⟨i, hi, rfl⟩ := List.getElem_of_mem he
    have hlt : i < es.size := by rw [h1]; exact hi
    obtain ⟨y, hy, r1, r2⟩ := h2 i _ (Array.getElem?_eq_getElem hlt)
    rw [List.getElem?_eq_getElem hi] at hy
    cases hy
    exact ⟨rep_ok k r1.2, rep_ok v r2.2⟩
  | .box cs, x, n, ho, hs => by
    obtain ⟨v, h⟩ := ho 0 _ rfl
    obtain ⟨b, l, _, hl, _⟩ := h
    exact shOK_of cs x (n + 1) (fun k o hk => ho (k + 1) o (by simpa [objsA] using hk)) (.inr (.inl ⟨l, hl⟩))
  | .clos f cs, x, n, ho, hs => by
    rcases hs with ⟨v, h⟩ | ⟨l, h⟩ | ⟨l, h⟩
    · unfold intoA sat at h
      obtain ⟨l, _, h⟩ := h
      exact shOK_of cs x n ho (.inr (.inr ⟨l, h⟩))
    · unfold intoA satL at h; exact h.elim
    · unfold intoA satT at h; exact h.elim
  | .nilp, _, _, _, _ => trivial
  | .nil, _, _, _, _ => trivial
  | .cons a b, x, n, ho, hs => by
    have hoa : ∀ (k : Nat) (o : HObj), (objsA nm a x.1 n)[k]? = some o → ∃ v, satH o v β G := fun k o hk => ho k o (by
      simp only [objsA]
      rw [List.getElem?_append_left (List.getElem?_eq_some_iff.1 hk).1]; exact hk)
    have hob : ∀ (k : Nat) (o : HObj), (objsA nm b x.2 (n + nn a))[k]? = some o → ∃ v, satH o v β G := fun k o hk => ho ((objsA nm a x.1 n).length + k) o (by
      simp only [objsA]
      rw [List.getElem?_append_right (Nat.le_add_right _ _), Nat.add_sub_cancel_left]; exact hk)
    rcases hs with ⟨v, h⟩ | ⟨l, h⟩ | ⟨l, h⟩
    · unfold intoA sat at h; exact h.elim
    · unfold intoA satL at h
      obtain ⟨v, l', _, _, h1, h2⟩ := h
      exact ⟨shOK_of a x.1 n hoa (.inl ⟨v, h1⟩), shOK_of b x.2 (n + nn a) hob (.inr (.inl ⟨l', h2⟩))⟩
    · unfold intoA satT at h
      obtain ⟨v, l', _, h1, h2⟩ := h
      exact ⟨shOK_of a x.1 n hoa (.inl ⟨v, h1⟩), shOK_of b x.2 (n + nn a) hob (.inr (.inr ⟨l', h2⟩))⟩
end Go.Gv

/- A function: from the goal to the contract. -/
namespace Go.Gv
open Go

theorem resV_eq (l : List Value) : (if h : l.toArray.size = 1 then l.toArray[0] else Value.tuple l.toArray) = resV l := by
  cases l with
  | nil => rfl
  | cons a r =>
    cases r with
    | nil => rfl
    | cons b r => rw [dif_neg (by simp)]; rfl

/-- What one result is. -/
def resOne (P : Program) (tmps : Array Value) (w : World) : ResultVar → Value → Prop
  | .tmp t, v => v = tmps.getD t undef
  | .cell a t, v => (do loadVar t (← asAddr (tmps.getD a undef)) : Sem Value).run P w = .ok v w
def resAll (P : Program) (tmps : Array Value) (w : World) : List ResultVar → List Value → Prop
  | [], l => l = []
  | r :: rs, l => ∃ v l', l = v :: l' ∧ resOne P tmps w r v ∧ resAll P tmps w rs l'

theorem results_run {P : Program} {fn : Func} (tmps : Array Value) (w : World) {vs : List Value} (h : resAll P tmps w fn.results.toList vs) : (results fn tmps).run P w = .ok (resV vs) w := by
  have key : ∀ (l : List ResultVar) (vs : List Value), resAll P tmps w l vs → ∀ (acc : Array Value), (l.foldlM (fun (bs : Array Value) (r : ResultVar) => bs.push <$> (match r with
        | .tmp t => Pure.pure (tmps.getD t undef)
        | .cell a t => do loadVar t (← asAddr (tmps.getD a undef)) : Sem Value)) acc : Sem (Array Value)).run P w = .ok (acc ++ vs.toArray) w := by
    intro l
    induction l with
    | nil => intro vs hl acc; cases hl; simp
    | cons r l ih =>
      intro vs hl acc
      obtain ⟨v, l', rfl, h1, h2⟩ := hl
      rw [List.foldlM_cons]
      cases r with
      | tmp t =>
        cases h1
        simp only [Sem.run_bind, Sem.run_map, Sem.run_pure, Result.andThen_ok]
        rw [ih _ h2]
        simp
      | cell a t =>
        have h1 : (do loadVar t (← asAddr (tmps.getD a undef)) : Sem Value).run P w = .ok v w := h1
        simp only [Sem.run_bind, Sem.run_map] at h1 ⊢
        rw [h1]
        simp only [Result.andThen_ok]
        rw [ih _ h2]
        simp
  unfold results
  rw [Array.mapM_eq_foldlM]
  rw [← Array.foldlM_toList]
  have hk := key fn.results.toList vs h #[]
  simp only [Sem.run_bind]
  refine Eq.trans (congrArg (fun z => Result.andThen z _) hk) ?_
  simp only [Result.andThen_ok, Sem.run_pure]
  rw [Array.empty_append, resV_eq]

def shLen : Sh → Nat
  | .cons _ b => shLen b + 1
  | _ => 0

theorem satT_len {nm : Nat → Nat} {β : Asg} {G : GW} : ∀ (s : Sh) (x : SDat s) (n : Nat) (l : List Value), satT (intoA nm s x n) β G l → l.length = shLen s
  | .cons a b, x, n, l, h => by
    unfold intoA satT at h
    obtain ⟨v, l', rfl, _, h2⟩ := h
    have := satT_len b x.2 (n + nn a) l' h2
    simp [shLen, this]
  | .nil, x, n, l, h => by unfold intoA satT at h; subst h; rfl
  | .d t, x, n, l, h => by unfold intoA satT at h; exact h.elim
  | .row t, x, n, l, h => by unfold intoA satT at h; exact h.elim
  | .spare t, x, n, l, h => by unfold intoA satT at h; exact h.elim
  | .map k v, x, n, l, h => by unfold intoA satT at h; exact h.elim
  | .box c, x, n, l, h => by unfold intoA satT at h; exact h.elim
  | .clos _ c, x, n, l, h => by unfold intoA satT at h; exact h.elim
  | .nilp, x, n, l, h => by unfold intoA satT at h; exact h.elim

theorem argsGo {β : Asg} {G : GW} : ∀ (X : AP) (n : Nat) (l : List Value), satT X β G l → ∀ s p, lookN (argsSl.go X n) s = some p → p.path = [] ∧ n ≤ s ∧ ∃ v, l[s - n]? = some v ∧ sat p.ap β G v
  | .cons a r, n, l, h, s, p, hp => by
    unfold satT at h
    obtain ⟨v, l', rfl, h1, h2⟩ := h
    unfold argsSl.go at hp
    rw [lookN_cons] at hp
    by_cases hs : s = n
    · rw [if_pos hs] at hp
      simp only [Option.some.injEq] at hp; subst hp
      exact ⟨rfl, by omega, v, by rw [hs, Nat.sub_self]; rfl, h1⟩
    · rw [if_neg hs] at hp
      obtain ⟨g1, g2, u, g3, g4⟩ := argsGo r (n + 1) l' h2 s p hp
      exact ⟨g1, by omega, u, by rw [show s - n = (s - (n + 1)) + 1 by omega]; exact g3, g4⟩
  | .nil, n, l, h, s, p, hp => by cases hp
  | .any, n, l, h, s, p, hp => by cases hp
  | .dat _ _, n, l, h, s, p, hp => by cases hp
  | .blit _, n, l, h, s, p, hp => by cases hp
  | .val _, n, l, h, s, p, hp => by cases hp
  | .agg _, n, l, h, s, p, hp => by cases hp
  | .tup _, n, l, h, s, p, hp => by cases hp
  | .ptr _ _, n, l, h, s, p, hp => by cases hp
  | .ref _, n, l, h, s, p, hp => by cases hp
  | .loc _ _, n, l, h, s, p, hp => by cases hp
  | .rloc _ _ _ _, n, l, h, s, p, hp => by cases hp
  | .dec _, n, l, h, s, p, hp => by cases hp
  | .sl _ _ _, n, l, h, s, p, hp => by cases hp
  | .clos _ _, n, l, h, s, p, hp => by cases hp

theorem HInv.setN {C : Ctx} {hp : Nat → HObj} {β : Asg} {G : GW} (H : HInv C hp β G) (n : Nat) : HInv { C with N := n } hp β G := ⟨H.heap, H.step, H.own, H.owno, H.glob⟩
theorem HInv.unN {C : Ctx} {n : Nat} {hp : Nat → HObj} {β : Asg} {G : GW} (H : HInv { C with N := n } hp β G) : HInv C hp β G := ⟨H.heap, H.step, H.own, H.owno, H.glob⟩

theorem getR_sat {P : Program} {E : Env} (hE : E.ok P = true) {C : Ctx} {rs : RS} {β : Asg} {a : Act} {G : GW} (S0 : Sim C rs β a G) : ∀ (rl : List ResultVar) (l : List AP), getR E rs.hpf rs.slf rl = some l → ∃ vs, resAll P a.tmps G.w rl vs ∧ satT (listA l) β G vs
  | [], l, h => by
    cases h
    exact ⟨[], rfl, by unfold listA satT; rfl⟩
  | .tmp t :: r, l, h => by
    unfold getR at h
    split at h
    · rename_i l' hl
      simp only [Option.some.injEq] at h; subst h
      obtain ⟨vs, h1, h2⟩ := getR_sat hE S0 r l' hl
      refine ⟨_ :: vs, ⟨_, _, rfl, rfl, h1⟩, ?_⟩
      show satT (.cons (rs.slf t).ap (listA l')) β G _
      unfold satT
      refine ⟨_, _, rfl, ((S0.holds (fun _ => false)).slots t).1 (fun e he => ?_), h2⟩
      have he' : e ∈ (rs.slf t).path := he
      rw [S0.flat t] at he'; cases he'
    · cases h
  | .cell t T :: r, l, h => by
    unfold getR at h
    split at h
    · rename_i hh off hX
      split at h
      · rename_i X l' hld hl
        simp only [Option.some.injEq] at h; subst h
        obtain ⟨vs, h1, h2⟩ := getR_sat hE S0 r l' hl
        have hs : sat (rs.slf t).ap β G (a.tmps.getD t undef) := ((S0.holds (fun _ => false)).slots t).1 (fun e he => by
          have he' : e ∈ (rs.slf t).path := he
          rw [S0.flat t] at he'; cases he')
        rw [hX] at hs
        obtain ⟨v, hv, hsv⟩ := loadA_run hE hld (fun _ h => by cases h) (HInv.hs S0.inv) hs
        refine ⟨v :: vs, ⟨_, _, rfl, ?_, h1⟩, ?_⟩
        · unfold sat at hs
          obtain ⟨b, _, e⟩ := hs
          show (do loadVar T (← asAddr (a.tmps.getD t undef)) : Sem Value).run P G.w = .ok v G.w
          rw [e] at hv ⊢
          simpa [Instr.loadAt, Instr.sureAddr, asAddr, Sem.run_bind] using hv
        · show satT (.cons X (listA l')) β G _
          unfold satT
          exact ⟨_, _, rfl, hsv, h2⟩
      · cases h
    · cases h

/-- What one way of coming back shows. -/
theorem retAlt_ok {P : Program} {E : Env} (hE : E.ok P = true) {C : Ctx} {ro : Bool} {ins : Sh} {q : Prop} {A : Alt ins} {x : SDat ins} {rl : List ResultVar} {rs : RS} {β β0 : Asg} {a : Act} {G G0 : GW} (h : retAlt E ro q A x rl rs) (S0 : Sim C rs β a G) (hb : β0.le β) (hgl : G0.le G) : q ∧ ∃ vs, resAll P a.tmps G.w rl vs ∧ RetOK C ro ins A x β0 G0 (resV vs) G.w := by
  unfold retAlt at h
  split at h
  · rename_i l hgr
    obtain ⟨vs, hvs, hsat⟩ := getR_sat (P := P) hE S0 rl l hgr
    generalize hfz : frzArgs rs.hpf A.outs l = fz at h
    dsimp only at h
    split at h
    · rename_i y ns ex nx hfo
      split at h
      · rename_i z ms ey nx2 hfb
        split at h
        · rename_i hnd hidk
          obtain ⟨hq, hy, hz⟩ := h
          have hspec : ∀ h o, (h, o) ∈ fz → ∃ t xs, o = .frz t xs ∧ rs.hpf h = .row t xs := fun h o hm => frzArgs_spec A.outs _ h o (by rw [hfz]; exact hm)
          obtain ⟨G1, e1, l1, H1⟩ := HInv.freezeL fz S0.inv hspec
          refine ⟨hq, vs, hvs, ⟨_, β, G1, _, _, rs.nx, y, ns, ex, nx, z, ms, ey, nx2, e1, H1, hb, GW.le_trans hgl l1, rfl, satT.mono _ hsat (Asg.le_refl β) l1, fun n hn => ?_, hfo, hfb, hnd, hy, hz, hidk⟩⟩
          by_cases hk : n ∈ keysH fz
          · obtain ⟨o, hm⟩ := mem_keys hk
            obtain ⟨t, xs, _, e⟩ := hspec n o hm
            rw [S0.fresh n hn] at e; cases e
          · rw [hset_not hk]; exact S0.fresh n hn
        · exact h.elim
      · exact h.elim
    · exact h.elim
  · exact h.elim

theorem RetOK.unN {C : Ctx} {n : Nat} {ro : Bool} {ins : Sh} {A : Alt ins} {x : SDat ins} {β : Asg} {G : GW} {v : Value} {w : World} (h : RetOK { C with N := n } ro ins A x β G v w) : RetOK C ro ins A x β G v w := by
  obtain ⟨hp', β', G', L, vs, nx, y, ns, ex, nx1, z, ms, ey, nx2, h1, h2, h3⟩ := h.ex
  exact ⟨hp', β', G', L, vs, nx, y, ns, ex, nx1, z, ms, ey, nx2, h1, h2.unN, h3⟩

/-- A FUNCTION THAT DOES WHAT THE GENERATOR ASKS FOR KEEPS ITS CONTRACT. What is known of the arguments at the start may be more than their shape says. -/
theorem spec_ok_gen {P : Program} {c : Cf} (hE : c.E.ok P = true) (hS : SpecsOK P c.gl c.F) (hmix : P.follows .mixedOrders = true) {f : FuncId} {fn : Func} {S : Spec} (hf : P.funcs[f]? = some fn) (hb : fn.body.isSome = true) (hnm : (fn.name == "runtime.NumGoroutine") = false) (hN : fn.ntmps = c.N)
    (hlen : shLen S.ins ≤ c.N) (hsel : ∀ x, S.pre x → S.sel x < S.alts.length) (hgoal : ∀ x, S.pre x → shOK S.ins x → ∀ (β : Asg) (G : GW) (args : List Value), satT (intoA (fun k => k) S.ins x 0) β G args →
      ∃ sl0 : List (Nat × PA), (∀ s p, lookN sl0 s = some p → p.path = [] ∧ ∃ v, args[s]? = some v ∧ sat p.ap β G v) ∧ wpA c (bodyOf fn) { sl := sl0, hp := intoH (fun k => k) S.ins x 0 [], nx := nn S.ins } (fun e rs => match e with
        | .ret => retA c.E S x fn.results.toList rs
        | .normal => retA c.E S x fn.results.toList rs
        | _ => False)) : SpecOK P c.gl f S := by
  obtain ⟨code, hcode⟩ := Option.isSome_iff_exists.1 hb
  refine ⟨⟨fn, hf, by rw [hcode]; rfl, hnm⟩, fun x hpre => ⟨_, List.getElem?_eq_getElem (hsel x hpre), ?_⟩⟩
  intro C β G args hg H hargs
  have hal := satT_len _ _ _ _ hargs
  have hok : shOK S.ins x := shOK_of (nm := fun k => k) S.ins x 0 (fun k o hk => by
    have hc := canon_at S.ins x hk
    obtain ⟨v, _, hs⟩ := H.heap.sat k (by rw [hc]; exact objsA_ne _ S.ins x 0 o (List.mem_of_getElem? hk))
    rw [hc] at hs
    exact ⟨v, hs⟩) (.inr (.inr ⟨args, hargs⟩))
  obtain ⟨sl0, hsl0, hgx⟩ := hgoal x hpre hok β G args hargs
  unfold bodyOf at hgx
  rw [hcode] at hgx
  have hgx : wpA c code { sl := sl0, hp := intoH (fun k => k) S.ins x 0 [], nx := nn S.ins } (fun e rs => match e with
      | .ret => retA c.E S x fn.results.toList rs
      | .normal => retA c.E S x fn.results.toList rs
      | _ => False) := hgx
  refine calls_of_wp hf hcode ?_
  let a0 : Act := { tmps := args.toArray ++ Array.replicate (fn.ntmps - args.toArray.size) undef, defers := [] }
  have hsz : a0.tmps.size = c.N := by
    show (args.toArray ++ Array.replicate (fn.ntmps - args.toArray.size) undef).size = c.N
    simp
    omega
  have hhp : ∀ h, ({ sl := sl0, hp := intoH (fun k => k) S.ins x 0 [], nx := nn S.ins } : RS).hpf h = canon S.ins x h := fun h => hpf_hset _ h
  have hslot : ∀ s, (({ sl := sl0, hp := intoH (fun k => k) S.ins x 0 [], nx := nn S.ins } : RS).slf s).path = [] ∧ sat (({ sl := sl0, hp := intoH (fun k => k) S.ins x 0 [], nx := nn S.ins } : RS).slf s).ap β G (a0.tmps.getD s undef) := fun s => by
    unfold RS.slf
    dsimp only
    cases hl : lookN sl0 s with
    | none => exact ⟨rfl, by unfold sat; trivial⟩
    | some p =>
      obtain ⟨g1, v, g3, g4⟩ := hsl0 s p hl
      refine ⟨g1, ?_⟩
      have : a0.tmps.getD s undef = v := by
        show (args.toArray ++ Array.replicate (fn.ntmps - args.toArray.size) undef).getD s undef = v
        have hlt := (List.getElem?_eq_some_iff.1 g3).1
        rw [Array.getD_eq_getD_getElem?, Array.getElem?_append_left (by simpa using hlt)]
        simp [g3]
      rw [this]; exact g4
  have hsim : Sim { C with N := c.N } { sl := sl0, hp := intoH (fun k => k) S.ins x 0 [], nx := nn S.ins } β a0 G :=
    ⟨fun γ => ⟨fun s => ⟨fun _ => (hslot s).2, fun hn => (hn (fun e he => by
        have he' : e ∈ (({ sl := sl0, hp := intoH (fun k => k) S.ins x 0 [], nx := nn S.ins } : RS).slf s).path := he
        rw [(hslot s).1] at he'; cases he')).elim⟩, hsz, rfl, by
        show HInv _ ({ sl := sl0, hp := intoH (fun k => k) S.ins x 0 [], nx := nn S.ins } : RS).hpf β G
        rw [funext hhp]; exact H.setN c.N⟩, fun s => (hslot s).1, fun n hn => by rw [hhp]; exact canon_out S.ins x hn, rfl, rfl, rfl⟩
  have hret : ∀ rs' β' a' G', retA c.E S x fn.results.toList rs' → Sim { C with N := c.N } rs' β' a' G' → β.le β' → G.le G' → a'.defers = [] ∧ ∃ v, (results fn a'.tmps).run P G'.w = .ok v G'.w ∧ RetOK C S.ro S.ins (S.alts[S.sel x]'(hsel x hpre)) x β G v G'.w := by
    intro rs' β' a' G' hr hs' hb' hgl
    unfold retA at hr
    split at hr
    · rename_i A hAs
      obtain ⟨hq, vs, hvs, hok⟩ := retAlt_ok (P := P) hE hr hs' hb' hgl
      have : S.alts[S.sel x]'(hsel x hpre) = A := by
        have h1 : S.alts[S.sel x]? = some A := by rw [hAs, hq]; rfl
        exact (List.getElem?_eq_some_iff.1 h1).2
      rw [this]
      exact ⟨(hs'.holds (fun _ => false)).defers, _, results_run a'.tmps G'.w hvs, hok.unN⟩
    · obtain ⟨k, A, hA, hr⟩ := hr
      obtain ⟨hq, vs, hvs, hok⟩ := retAlt_ok (P := P) hE hr hs' hb' hgl
      have : S.alts[S.sel x]'(hsel x hpre) = A := by
        have h1 : S.alts[S.sel x]? = some A := by rw [hq]; exact hA
        exact (List.getElem?_eq_some_iff.1 h1).2
      rw [this]
      exact ⟨(hs'.holds (fun _ => false)).defers, _, results_run a'.tmps G'.w hvs, hok.unN⟩
  refine wpA_sound hE hS hmix (C := { C with N := c.N }) hg rfl code _ _ β a0 G _ hgx hsim fun e rs' β' a' G' hK hs' hb' hgl _ _ => ?_
  cases e with
  | normal =>
    obtain ⟨h1, v, h2, h3⟩ := hret rs' β' a' G' hK hs' hb' hgl
    exact ⟨h1, v, h2, h3⟩
  | ret =>
    obtain ⟨h1, v, h2, h3⟩ := hret rs' β' a' G' hK hs' hb' hgl
    exact ⟨h1, v, h2, h3⟩
  | exit i => exact hK.elim

theorem spec_ok {P : Program} {c : Cf} (hE : c.E.ok P = true) (hS : SpecsOK P c.gl c.F) (hmix : P.follows .mixedOrders = true) {f : FuncId} {fn : Func} {S : Spec} (hf : P.funcs[f]? = some fn) (hb : fn.body.isSome = true) (hnm : (fn.name == "runtime.NumGoroutine") = false) (hN : fn.ntmps = c.N)
    (hlen : shLen S.ins ≤ c.N) (hsel : ∀ x, S.pre x → S.sel x < S.alts.length) (hgoal : ∀ x, S.pre x → shOK S.ins x → fnGoal c fn S x) : SpecOK P c.gl f S :=
  spec_ok_gen hE hS hmix hf hb hnm hN hlen hsel fun x hpre hok β G args hargs => ⟨argsSl S.ins x, fun s p hl => by
    obtain ⟨g1, _, v, g3, g4⟩ := argsGo _ 0 args hargs s p hl
    rw [Nat.sub_zero] at g3
    exact ⟨g1, v, g3, g4⟩, by have := hgoal x hpre hok; unfold fnGoal at this; rw [forceRS_eq] at this; exact this⟩
end Go.Gv

/- The arguments of a law: what reads as data in a world holds data. -/
namespace Go.Gv
open Go

/-- A world of which nothing that is there is written. -/
def GW.all (W : World) : GW := { w := W, im := fun b _ => b < W.heap.size, imo := fun b => ∃ es c, W.heap[b]? = some (.map es c) }

def plainTy : Ty → Bool
  | .int _ => true
  | .bool => true
  | .str => true
  | .sl t => plainTy t
  | .nl => true
  | .cs t r => plainTy t && plainTy r
  | .st fs => plainTy fs
  | .arr _ t => plainTy t
  | _ => false

theorem cellsOf_tym {P : Program} {t : Ty} {T : TypeId} (h : tym P t T = true) : P.cellsOf T = t.size := by
  obtain ⟨i, hi, h1, _⟩ := tym_info h
  unfold Program.cellsOf
  rw [hi]; exact h1

theorem cell_lt {w : World} {b o : Nat} {v : Value} (h : w.cell? ⟨b, o, none⟩ = some v) : b < w.heap.size := by
  unfold World.cell? at h
  split at h
  · rename_i hb; exact (Array.getElem?_eq_some_iff.1 hb).1
  · cases h

theorem wf_has {k : IntKind} {n : Int} (h : (Lit.int k n).wf = true) : k.has n := by
  simpa [Lit.wf, IntKind.has] using h

theorem choose_list {α : Type} {p : Nat → α → Prop} : ∀ (n : Nat), (∀ i, i < n → ∃ x, p i x) → ∃ l : List α, l.length = n ∧ ∀ (i : Nat) (x : α), l[i]? = some x → p i x
  | 0, _ => ⟨[], rfl, fun i x h => by simp at h⟩
  | n + 1, h => by
    obtain ⟨l, hl, hp⟩ := choose_list n (fun i hi => h i (by omega))
    obtain ⟨x, hx⟩ := h n (by omega)
    refine ⟨l ++ [x], by simp [hl], fun i y hy => ?_⟩
    by_cases hi : i < l.length
    · rw [List.getElem?_append_left hi] at hy; exact hp i y hy
    · rw [List.getElem?_append_right (by omega)] at hy
      have hi2 : i - l.length = 0 := by
        have := (List.getElem?_eq_some_iff.1 hy).1
        simp at this; omega
      rw [hi2] at hy
      simp at hy; subst hy
      have : i = n := by omega
      rw [this]; exact hx

section
variable {H : Type} {enc : TypeId × Value → H} {P : Program} {W : World}

mutual
theorem trod_rep : ∀ (t : Ty), plainTy t = true → ∀ (T : TypeId) (fuel : Nat) (cs : List Value) (x : DataW H × List MemPlace), tym P t T = true → DataW.trod enc P W 0 (fun _ => true) true fuel T cs = some x → ∃ d : Dat t, Rep t d (GW.all W) cs
  | .int k, _, T, fuel, cs, x, hT, h => by
    obtain ⟨n, rfl, _, hw⟩ := DataW.trod_int (und_int hT) h
    exact ⟨n, rfl, wf_has hw⟩
  | .bool, _, T, fuel, cs, x, hT, h => by
    obtain ⟨b, rfl, _⟩ := DataW.trod_bool (und_bool hT) h
    exact ⟨b, by unfold Rep; rfl⟩
  | .str, _, T, fuel, cs, x, hT, h => by
    obtain ⟨s, rfl, _, hl⟩ := DataW.trod_string (und_str hT) h
    exact ⟨s.data.toList, by cases s; rfl, hl⟩
  | .sl t, hp, T, fuel, cs, x, hT, h => by
    obtain ⟨e, hue, hte, hsz⟩ := und_sl hT
    rcases Deep.open_slice hue h with ⟨rfl, _⟩ | ⟨a, len, cap, m, n, D, Pl, rfl, _, hlc, hcm, hm, _, hx⟩
    · exact ⟨[], none, 0, rfl, Nat.le_refl _, Nat.zero_le _, fun _ => rfl, fun _ h => by cases h⟩
    · have hmc : m = cap := by simpa using hm
      subst hmc
      have hce := cellsOf_tym hte
      have hpos : 0 < t.size := by omega
      have hspot : 0 < m → a.spot = none := fun hm0 => by
        obtain ⟨cs', h1, _⟩ := hx 0 hm0
        obtain ⟨_, hlen, hc⟩ := World.cells?_some h1
        have h0 := hc 0 (by rw [hce]; exact hpos)
        rw [Nat.zero_mul, Addr.add_zero', Addr.add_zero'] at h0
        have hne : (W.cell? a).isSome = true := by
          rw [h0, List.getElem?_eq_getElem (by rw [hlen, hce]; exact hpos)]; rfl
        unfold World.cell? at hne
        split at hne
        · split at hne
          · cases hne
          · rename_i hs; simpa using hs
        · cases hne
      have hcell : ∀ i, i < m → ∃ cs' : List Value, CellsIm (GW.all W) a.block (a.off + i * t.size) cs' ∧ ∃ y, DataW.trod enc P W 0 (fun _ => true) true n e cs' = some y := fun i hi => by
        obtain ⟨cs', h1, h2⟩ := hx i hi
        obtain ⟨_, hlen, hc⟩ := World.cells?_some h1
        refine ⟨cs', fun j v hv => ?_, _, h2⟩
        have hj := (List.getElem?_eq_some_iff.1 hv).1
        have h3 := hc j (by rw [← hlen]; exact hj)
        rw [addr_add a (hspot (by omega)), addr_add _ rfl, hv, hce] at h3
        exact ⟨cell_lt h3, h3⟩
      obtain ⟨xs, hxl, hxs⟩ := choose_list (p := fun i (d : Dat t) => ∃ cs' : List Value, CellsIm (GW.all W) a.block (a.off + i * t.size) cs' ∧ Rep t d (GW.all W) cs') len (fun i hi => by
        obtain ⟨cs', h1, y, h2⟩ := hcell i (by omega)
        obtain ⟨d, hd⟩ := trod_rep t hp e n cs' y hte h2
        exact ⟨d, cs', h1, hd⟩)
      refine ⟨xs, some a, m, by rw [hxl], by rw [hxl]; exact hlc, hcm, fun h => (by cases h), fun a' ha' => ?_⟩
      cases ha'
      exact ⟨hspot, fun i d hd => hxs i d hd⟩
  | .st fs, hp, T, fuel, cs, x, hT, h => by
    obtain ⟨f, huf, htf⟩ := und_st hT
    obtain ⟨xs, n, _, _, hlen, hxl, hf⟩ := DataW.trod_struct huf h
    rw [cellsOf_tym hT] at hlen
    have hlen : cs.length = fs.size := hlen
    obtain ⟨d, hd⟩ := trod_repF fs hp f.toList 0 n cs htf (by omega) (fun i fl hi => by
      have hi' : f[i]? = some fl := by simpa using hi
      have hlt : i < xs.length := by rw [hxl]; exact (Array.getElem?_eq_some_iff.1 hi').1
      exact ⟨xs[i], by rw [hf i fl hi', List.getElem?_eq_getElem hlt]⟩)
    refine ⟨d, ?_⟩
    rw [List.drop_zero, ← hlen, List.take_length] at hd
    unfold Rep; exact hd
  | .arr n t, hp, T, fuel, cs, x, hT, h => by
    obtain ⟨e, hue, hte, hsz⟩ := und_arr hT
    obtain ⟨xs, m, _, _, hlen, hxl, hx⟩ := DataW.trod_array hue h
    rw [cellsOf_tym hT] at hlen
    have hce := cellsOf_tym hte
    obtain ⟨l, hl, hls⟩ := choose_list (p := fun i (d : Dat t) => Rep t d (GW.all W) ((cs.drop (i * t.size)).take t.size)) n (fun i hi => by
      have := hx i hi
      rw [hce, List.getElem?_eq_getElem (by omega)] at this
      exact trod_rep t hp e m _ _ hte this)
    exact ⟨l, hl, hlen, fun i d hd => hls i d hd⟩
  | .nl, _, T, fuel, cs, x, hT, h => by simp [tym] at hT
  | .cs _ _, _, T, fuel, cs, x, hT, h => by simp [tym] at hT
  | .mp _ _, hp, T, fuel, cs, x, hT, h => by cases hp
  | .pt _, hp, T, fuel, cs, x, hT, h => by cases hp
  | .ot _, hp, T, fuel, cs, x, hT, h => by cases hp
theorem trod_repF : ∀ (fs : Ty), plainTy fs = true → ∀ (l : List Field) (off fuel : Nat) (cs : List Value), tymF P fs l off = true → off + fs.size ≤ cs.length →
    (∀ (i : Nat) (f : Field), l[i]? = some f → ∃ x, DataW.trod enc P W 0 (fun _ => true) true fuel f.type ((cs.drop f.offset).take (P.cellsOf f.type)) = some x) → ∃ d : Dat fs, Rep fs d (GW.all W) ((cs.drop off).take fs.size)
  | .nl, _, l, off, fuel, cs, ht, hl, hx => ⟨(), by unfold Rep; simp [Ty.size]⟩
  | .cs t r, hp, [], off, fuel, cs, ht, hl, hx => by simp [tymF] at ht
  | .cs t r, hp, f :: fl, off, fuel, cs, ht, hl, hx => by
    simp only [tymF, Bool.and_eq_true, beq_iff_eq, bne_iff_ne] at ht
    obtain ⟨⟨⟨hoff, hsz⟩, hT⟩, hr⟩ := ht
    simp only [plainTy, Bool.and_eq_true] at hp
    obtain ⟨y, hy⟩ := hx 0 f rfl
    rw [hoff, cellsOf_tym hT] at hy
    obtain ⟨d1, h1⟩ := trod_rep t hp.1 f.type fuel _ y hT hy
    have hl' : off + (t.size + r.size) ≤ cs.length := hl
    obtain ⟨d2, h2⟩ := trod_repF r hp.2 fl (off + t.size) fuel cs hr (by omega) (fun i g hg => hx (i + 1) g (by simpa using hg))
    refine ⟨(d1, d2), _, _, ?_, h1, h2⟩
    show (cs.drop off).take (t.size + r.size) = _
    rw [List.take_add, List.drop_drop]
  | .int _, _, l, off, fuel, cs, ht, hl, hx => by simp [tymF] at ht
  | .bool, _, l, off, fuel, cs, ht, hl, hx => by simp [tymF] at ht
  | .str, _, l, off, fuel, cs, ht, hl, hx => by simp [tymF] at ht
  | .sl _, _, l, off, fuel, cs, ht, hl, hx => by simp [tymF] at ht
  | .st _, _, l, off, fuel, cs, ht, hl, hx => by simp [tymF] at ht
  | .arr _ _, _, l, off, fuel, cs, ht, hl, hx => by simp [tymF] at ht
  | .mp _ _, _, l, off, fuel, cs, ht, hl, hx => by simp [tymF] at ht
  | .pt _, _, l, off, fuel, cs, ht, hl, hx => by simp [tymF] at ht
  | .ot _, _, l, off, fuel, cs, ht, hl, hx => by simp [tymF] at ht
end
end
end Go.Gv

/- A law: from its function's contract to its row. -/
namespace Go.Gv
open Go

theorem canon_none {s : Sh} (hn : nn s = 0) (x : SDat s) : canon s x = fun _ => .none := by
  funext k
  exact canon_out s x (by omega)

/-- The context of a law: nothing that was there may be written. -/
def lawC (gl : Glob) (W : World) : Ctx := { G0 := GW.all W, F0 := fun _ _ => False, Fo0 := fun _ => False, glob := gl, N := 0 }

theorem law_inv {gl : Glob} {W : World} (hgl : ∀ g t y, gl g = some ⟨t, y⟩ → sat (.ptr t y) (fun _ => none) (GW.all W) (.pointer (some ⟨g, 0, none⟩))) : HInv (lawC gl W) (fun _ => .none) (fun _ => none) (GW.all W) := {
  heap := ⟨fun _ _ => rfl, fun _ h => (h rfl).elim, fun _ _ h => (by cases h), fun _ _ h => (by cases h), fun _ _ _ _ _ h => (by cases h), fun _ _ _ _ _ h => (by cases h), fun _ _ h => h, fun _ h => h⟩
  step := Step.refl _ _ _
  own := fun _ _ h => by cases h
  owno := fun _ _ h => by cases h
  glob := hgl }

theorem law_calls {P : Program} {gl : Glob} {f : FuncId} {S : Spec} (hS : SpecOK P gl f S) {W : World} {args : List Value} {x : SDat S.ins} (hpre : S.pre x) (hnn : nn S.ins = 0) (hargs : satT (intoA (fun k => k) S.ins x 0) (fun _ => none) (GW.all W) args)
    (hgl : ∀ g t y, gl g = some ⟨t, y⟩ → sat (.ptr t y) (fun _ => none) (GW.all W) (.pointer (some ⟨g, 0, none⟩))) :
    ∃ A, S.alts[S.sel x]? = some A ∧ Calls P f args.toArray W (fun e W' => ∃ v, e = .returned v ∧ ∃ β' G', G'.w = W' ∧ Step (fun _ _ => False) (fun _ => False) (GW.all W) G' ∧ sat (resA A.outs (A.res x) 0) β' G' v) := by
  obtain ⟨A, hA, hcall⟩ := hS.2 x hpre
  refine ⟨A, hA, ?_⟩
  refine Calls.mono (hcall (lawC gl W) (fun _ => none) (GW.all W) args rfl (by rw [canon_none hnn]; exact law_inv hgl) hargs) fun e w' hr => ?_
  cases e with
  | panicked _ => exact hr.elim
  | outgrown => exact hr.elim
  | returned v =>
    obtain ⟨hp', β', G', L, vs, nx', y, os, ex', nx1', z, ms, ey, nx2, rfl, H2, lb, lg, rfl, hL, hfr', hfo, hfb, hnd2, hy, hz, hid⟩ := hr.ex
    obtain ⟨βx, Hx, lx, car, _⟩ := take_in H2 hfr' hfo
    obtain ⟨_, _, c3, _⟩ := car.go (fun k => 0 + k) 0 (fun k => (os[k]?).bind βx) (fun k h hk => by simp [hk])
    refine ⟨resV vs, rfl, (fun k => (os[k]?).bind βx), G', rfl, H2.step, ?_⟩
    rw [← hy]
    exact resV_sat (s := A.outs) hfo hL (m := 0) (c3 vs hL)

section
variable {H : Type} {enc : TypeId × Value → H} {P : Program}

theorem step_same {W : World} {G' : GW} (h : Step (fun _ _ => False) (fun _ => False) (GW.all W) G') : ∀ b, b < W.heap.size → G'.w.heap[b]? = W.heap[b]? :=
  fun b hb => h.blk b hb (fun _ hf => hf) (fun hf => hf)

theorem keptBut_of_same {W W' : World} (ho : W'.os = W.os) (hu : W'.output = W.output) (hb : ∀ b, b < W.heap.size → W'.heap[b]? = W.heap[b]?) (may : MemPlace → Prop) : W.keptBut W' may := by
  refine ⟨ho, hu, fun i hi => ?_⟩
  rw [hb i hi]
  cases h : W.heap[i]? with
  | none => simp
  | some o => cases o <;> simp

theorem trodAll_carry {W W' : World} {base : Nat} {spare : Nat → Bool} {held : Bool} : ∀ {ts : List TypeId} {vs : List Value} {ds : List (DataW H)} {ps : List MemPlace}, DataW.TrodAll enc P W base spare held ts vs ds ps → (∀ p ∈ ps, W.sameAt W' p) → DataW.TrodAll enc P W' base spare held ts vs ds ps
  | [], [], [], _, h, _ => h
  | _ :: _, _ :: _, _ :: _, _, ⟨p, q, ⟨n, h1⟩, h2, e⟩, hs => ⟨p, q, ⟨n, DataW.trod_carry n _ _ _ h1 (fun x hx => hs x (by rw [e]; exact List.mem_append_left _ hx))⟩, trodAll_carry h2 (fun x hx => hs x (by rw [e]; exact List.mem_append_right _ hx)), e⟩

/-- What a law's row asks behind the call. -/
theorem law_post (hl : laidOutB P = true) (hm : mapsRowed P = true) (hfull : ((List.range P.types.size).all fun t => match P.underlying t with | some (.slice e) => decide (0 < P.cellsOf e) | _ => true) = true)
    {fn : Func} {s : ChangeSpec} {W : World} {args : Array Value} {ds gs : List (DataW H)} {before : List MemPlace} {apart fresh handsOn : Bool} (hW : DataW.Whole enc P fn.params.toList s.vars apart W args.toList ds gs before) (hvars : s.vars = []) (hty : ∀ t ∈ fn.params.toList, t < P.types.size) {tb : TypeId} (hres : fn.resultTypes = #[tb]) (htb : P.underlying tb = some .bool)
    (hfn : s.fn H ds = { results := [.lit (.bool true)], args := ds }) {G' : GW} (h : Step (fun _ _ => False) (fun _ => False) (GW.all W) G') : s.post enc P fn apart fresh handsOn false W args (.bool true) G'.w := by
  have hb := step_same h
  have hW' := hW
  obtain ⟨p, q, hA, hV, rfl, _, _⟩ := hW
  rw [hvars] at hV
  have hgs : gs = [] ∧ q = [] := by
    cases gs with
    | nil => exact ⟨rfl, hV⟩
    | cons g r => exact hV.elim
  obtain ⟨rfl, rfl⟩ := hgs
  have hlt : ∀ x ∈ p, x.block < W.heap.size := DataW.TrodAll.lt hA
  have hsame : ∀ x ∈ p, W.sameAt G'.w x := fun x hx => by
    cases x with
    | cell b o =>
      show G'.w.cell? ⟨b, o, none⟩ = W.cell? ⟨b, o, none⟩
      unfold World.cell?
      rw [hb b (hlt _ hx)]
    | map b => exact hb b (hlt _ hx)
  have hA2 := trodAll_carry hA hsame
  refine ⟨ds, [], p ++ [], [], p, [], hW', ?_, ?_, ?_, keptBut_of_same h.os h.output hb _, fun h => by cases h⟩
  · rw [List.append_nil, hfn, hres]
    show DataW.TrodAll enc P G'.w _ _ _ [tb] [.bool true] [.lit (.bool true)] []
    exact ⟨[], [], ⟨1, by simp [DataW.trod, htb, Value.cells]⟩, rfl, rfl⟩
  · rw [List.append_nil, hfn]
    exact DataW.TrodAll.respare (kids_rows hl hm) (slices_full_of P hfull) hty hA2 (fun x hx => by simpa using hlt x hx)
  · rw [List.append_nil, hfn, hvars]; rfl
end
end Go.Gv

/- Words for the use of the generator: contracts in a list, marks of a walk, small lemmas on lists and numbers. -/
namespace Go.Gv
open Go

theorem gv_more {p : Prop} (h : p) : More p := ⟨h⟩

/-- Contracts in a list. -/
def Fl : List (Nat × Spec) → Specs
  | [], _ => []
  | (m, S) :: r, n => match Nat.beq m n with
    | true => S :: Fl r n
    | false => Fl r n

theorem SpecsOK.nil {P : Program} {gl : Glob} : SpecsOK P gl (Fl []) := fun _ _ h => by cases h
theorem SpecsOK.cons {P : Program} {gl : Glob} {m : Nat} {S : Spec} {r : List (Nat × Spec)} (h : SpecOK P gl m S) (k : SpecsOK P gl (Fl r)) : SpecsOK P gl (Fl ((m, S) :: r)) := fun g T hT => by
  unfold Fl at hT
  split at hT
  · rename_i e
    rcases List.mem_cons.1 hT with rfl | hT
    · rw [← Nat.eq_of_beq_eq_true e]; exact h
    · exact k g T hT
  · exact k g T hT

/-- What is asked of a function's number. -/
structure FnOK (P : Program) (f : Nat) (fn : Func) (n : Nat) : Prop where
  at' : P.funcs[f]? = some fn
  body : fn.body.isSome = true
  name : (fn.name == "runtime.NumGoroutine") = false
  tmps : fn.ntmps = n

theorem mk_ok {P : Program} {c : Cf} {f : Nat} {fn : Func} {S : Spec} (hE : c.E.ok P = true) (hmix : P.follows .mixedOrders = true) (hfn : FnOK P f fn c.N) (hlen : shLen S.ins ≤ c.N) (hS : SpecsOK P c.gl c.F) (hsel : ∀ x, S.pre x → S.sel x < S.alts.length)
    (hg : ∀ x, S.pre x → shOK S.ins x → fnGoal c fn S x) : SpecOK P c.gl f S :=
  spec_ok hE hS hmix hfn.at' hfn.body hfn.name hfn.tmps hlen hsel hg

/-- A fact that tactics do not look into. -/
structure Hd (p : Prop) : Prop where
  out : p

/-- What is known of data on their surface. -/
def datLn : (t : Ty) → Dat t → Prop
  | .int k, n => inRng k n
  | .str, s => s.length ≤ maxLen
  | .sl _, xs => List.length xs ≤ maxLen
  | .cs t r, x => datLn t x.1 ∧ datLn r x.2
  | .st fs, x => datLn fs x
  | .arr n _, xs => List.length xs = n
  | _, _ => True
theorem datLn_of : ∀ (t : Ty) {x : Dat t}, datOK t x → datLn t x
  | .int _, _, h => h
  | .bool, _, _ => trivial
  | .str, _, h => h
  | .sl _, _, h => h.1
  | .nl, _, _ => trivial
  | .cs t r, _, h => ⟨datLn_of t h.1, datLn_of r h.2⟩
  | .st fs, _, h => datLn_of fs (by unfold datOK at h; exact h)
  | .arr _ _, _, h => h.1
  | .mp _ _, _, _ => trivial
  | .pt _, _, _ => trivial
  | .ot _, _, _ => trivial
def shLn : (s : Sh) → SDat s → Prop
  | .d t, x => datLn t x
  | .row t, xs => datLn (.sl t) xs
  | .spare t, xs => datLn (.sl t) xs
  | .map _ _, _ => True
  | .box cs, x => shLn cs x
  | .clos _ cs, x => shLn cs x
  | .nilp, _ => True
  | .nil, _ => True
  | .cons a b, x => shLn a x.1 ∧ shLn b x.2
theorem shLn_of : ∀ (s : Sh) {x : SDat s}, shOK s x → shLn s x
  | .d t, _, h => datLn_of t h
  | .row t, _, h => datLn_of (.sl t) h
  | .spare t, _, h => datLn_of (.sl t) h
  | .map _ _, _, _ => trivial
  | .box cs, _, h => shLn_of cs h
  | .clos _ cs, _, h => shLn_of cs h
  | .nilp, _, _ => trivial
  | .nil, _, _ => trivial
  | .cons a b, _, h => ⟨shLn_of a h.1, shLn_of b h.2⟩

theorem bF {p : Prop} (h : ¬ p) : false = boolOf p := by rw [boolOf_false.2 h]
theorem bT {p : Prop} (h : p) : true = boolOf p := by rw [boolOf_true.2 h]
theorem bC {p q : Prop} (h : p ↔ q) : boolOf p = boolOf q := by rw [show p = q from propext h]

/-- A function of one slice that asks whether it is nil: three ways to begin. -/
theorem nil_ok {P : Program} {c : Cf} {f : Nat} {fn : Func} {t : Ty} {S : Spec} (hE : c.E.ok P = true) (hmix : P.follows .mixedOrders = true) (hfn : FnOK P f fn c.N) (hS : SpecsOK P c.gl c.F) (hsel : ∀ x, S.pre x → S.sel x < S.alts.length) (hins : S.ins = .cons (.d (.sl t)) .nil) (hN : 0 < c.N)
    (hg : ∀ (x : SDat S.ins) (xs : List (Dat t)), HEq x (xs, ()) → S.pre x → shOK S.ins x → ∀ X : AP, ((X = .dat (.sl t) xs ∧ 0 < xs.length) ∨ (xs = [] ∧ X = .val (.slice none 0 0)) ∨ ∃ a k, xs = [] ∧ k ≤ maxLen ∧ (0 < k → a.spot = none) ∧ X = .val (.slice (some a) 0 k)) →
      wpA c (bodyOf fn) { sl := [(0, ⟨[], X⟩)], hp := [], nx := 0 } (fun e rs => match e with
        | .ret => retA c.E S x fn.results.toList rs
        | .normal => retA c.E S x fn.results.toList rs
        | _ => False)) : SpecOK P c.gl f S := by
  obtain ⟨ins, pre, sel, alts, ro⟩ := S
  dsimp only at hins
  subst hins
  refine spec_ok_gen hE hS hmix hfn.at' hfn.body hfn.name hfn.tmps hN hsel fun x hpre hok β G args hargs => ?_
  obtain ⟨xs, ⟨⟩⟩ := x
  have key : ∃ v, args = [v] ∧ RepV (.sl t) xs G v := by
    simp only [intoA] at hargs
    unfold satT at hargs
    obtain ⟨v, l, rfl, h1, h2⟩ := hargs
    unfold satT at h2
    subst h2
    unfold sat at h1
    exact ⟨v, rfl, h1⟩
  obtain ⟨v, rfl, hr⟩ := key
  have hr1 := hr.to_one rfl
  unfold Rep at hr1
  obtain ⟨base, cap, e, h1, h2, h3, h4⟩ := hr1
  simp only [List.cons.injEq, and_true] at e
  have fin : ∀ X : AP, sat X β G v → ∀ s p, lookN [(0, (⟨[], X⟩ : PA))] s = some p → p.path = [] ∧ ∃ v', [v][s]? = some v' ∧ sat p.ap β G v' := fun X hX s p hp => by
    rw [lookN_cons] at hp
    split at hp
    · rename_i hs
      simp only [Option.some.injEq] at hp
      subst hp; subst hs
      exact ⟨rfl, v, rfl, hX⟩
    · cases hp
  have go := fun X h => hg (xs, ()) xs HEq.rfl hpre hok X h
  by_cases hx : 0 < List.length xs
  · exact ⟨[(0, ⟨[], .dat (.sl t) xs⟩)], fin _ (by unfold sat; exact hr), go _ (.inl ⟨rfl, hx⟩)⟩
  · have hx0 : xs = [] := List.eq_nil_of_length_eq_zero (by omega)
    subst hx0
    cases base with
    | none =>
      have hc : cap = 0 := h3 rfl
      subst hc
      exact ⟨[(0, ⟨[], .val (.slice none 0 0)⟩)], fin _ (by unfold sat; exact e), go _ (.inr (.inl ⟨rfl, rfl⟩))⟩
    | some a =>
      exact ⟨[(0, ⟨[], .val (.slice (some a) 0 cap)⟩)], fin _ (by unfold sat; exact e), go _ (.inr (.inr ⟨a, cap, rfl, h2, (h4 a rfl).1, rfl⟩))⟩

theorem getD_ok {α : Type} {l : List α} {k : Nat} (d : α) (h : k < l.length) : List.getD l k d = l[k] := by
  rw [List.getD_eq_getElem?_getD, List.getElem?_eq_getElem h]; rfl
theorem take_eq_step {α : Type} {a b : List α} {k : Nat} {d : α} (h : a.take k = b.take k) (ha : k < a.length) (hb : k < b.length) (he : List.getD a k d = List.getD b k d) : a.take (k + 1) = b.take (k + 1) := by
  rw [getD_ok d ha, getD_ok d hb] at he
  rw [List.take_succ_eq_append_getElem ha, List.take_succ_eq_append_getElem hb, h, he]
theorem take_eq_end {α : Type} {a b : List α} {k : Nat} (h : a.take k = b.take k) (ha : a.length ≤ k) (hb : b.length ≤ k) : a = b := by
  rwa [List.take_of_length_le ha, List.take_of_length_le hb] at h
theorem all_step {α : Type} {p : α → Prop} {l : List α} {k : Nat} {d : α} (h : ∀ x ∈ l.take k, p x) (hk : k < l.length) (hp : p (List.getD l k d)) : ∀ x ∈ l.take (k + 1), p x := by
  rw [getD_ok d hk] at hp
  intro x hx
  rw [List.take_succ_eq_append_getElem hk, List.mem_append] at hx
  rcases hx with hx | hx
  · exact h x hx
  · simp at hx; subst hx; exact hp
theorem all_end {α : Type} {p : α → Prop} {l : List α} {k : Nat} (h : ∀ x ∈ l.take k, p x) (hk : l.length ≤ k) : ∀ x ∈ l, p x := by rwa [List.take_of_length_le hk] at h
theorem getD_mem {α : Type} {l : List α} {k : Nat} {d : α} (hk : k < l.length) : List.getD l k d ∈ l := by rw [getD_ok d hk]; exact List.getElem_mem hk
theorem rep1 {α : Type} (d x : α) : (List.replicate 1 d).set 0 x = [x] := rfl
theorem rep2 {α : Type} (d x y : α) : ((List.replicate 2 d).set 0 x).set 1 y = [x, y] := rfl
theorem rep3 {α : Type} (d x y z : α) : (((List.replicate 3 d).set 0 x).set 1 y).set 2 z = [x, y, z] := rfl
def selB (b : Bool) : Nat := if b = true then 1 else 0
theorem selB_0 {b : Bool} : selB b = 0 ↔ b = false := by cases b <;> simp [selB]
theorem selB_1 {b : Bool} : selB b = 1 ↔ b = true := by cases b <;> simp [selB]
theorem selB_lt (b : Bool) : selB b < 2 := by cases b <;> simp [selB]
theorem boolOf_eq_false {p : Prop} : boolOf p = false ↔ ¬ p := boolOf_false
theorem preA_t {ins : Sh} {p : Prop} {x : SDat ins} {hp : Nat → HObj} {ns : List Nat} {nx1 : Nat} (h : p) (k : sameP hp (intoH (nmBack (idR (nn ins) 0) ns nx1) ins x 0 [])) : preA true p x hp ns nx1 := ⟨h, k⟩
theorem preA_f {ins : Sh} {p : Prop} {x : SDat ins} {hp : Nat → HObj} {ns : List Nat} {nx1 : Nat} : preA false p x hp ns nx1 = p := rfl
theorem mget_none {α β : Type} [DecidableEq α] {x : α} : ∀ {l : List (α × β)}, mget l x = none ↔ ∀ e ∈ l, e.1 ≠ x
  | [] => by simp [mget]
  | (k, v) :: r => by
    have := mget_none (x := x) (l := r)
    unfold mget
    by_cases h : k = x
    · rw [if_pos h]; simp [h]
    · rw [if_neg h, this]; simp [h]
theorem mput_none {α β : Type} [DecidableEq α] {x : α} {y : β} : ∀ {l : List (α × β)}, mget l x = none → mput l x y = l ++ [(x, y)]
  | [], _ => rfl
  | (k, v) :: r, h => by
    unfold mget at h
    by_cases e : k = x
    · rw [if_pos e] at h; cases h
    · rw [if_neg e] at h
      unfold mput
      rw [if_neg e, mput_none h]; rfl
theorem mget_mput {α β : Type} [DecidableEq α] {x z : α} {y : β} : ∀ {l : List (α × β)}, mget (mput l x y) z = if x = z then some y else mget l z
  | [] => by simp [mput, mget]
  | (k, v) :: r => by
    unfold mput
    by_cases e : k = x
    · subst e
      rw [if_pos rfl]
      unfold mget
      by_cases e2 : k = z
      · rw [if_pos e2, if_pos e2]
      · rw [if_neg e2, if_neg e2, if_neg e2]
    · rw [if_neg e]
      unfold mget
      by_cases e2 : k = z
      · have : ¬ x = z := fun h => e (by rw [e2, h])
        rw [if_pos e2, if_neg this, if_pos e2]
      · rw [if_neg e2, mget_mput (l := r), if_neg e2]
theorem mget_some {α β : Type} [DecidableEq α] {x : α} {y : β} : ∀ {l : List (α × β)}, mget l x = some y → (x, y) ∈ l
  | (k, v) :: r, h => by
    unfold mget at h
    by_cases e : k = x
    · rw [if_pos e] at h
      cases h; rw [e]; exact List.mem_cons_self
    · rw [if_neg e] at h
      exact List.mem_cons_of_mem _ (mget_some h)
theorem lt_step {p : Nat → Prop} {k : Nat} (h : ∀ i, i < k → p i) (hk : p k) : ∀ i, i < k + 1 → p i := fun i hi => by
  by_cases e : i < k
  · exact h i e
  · have : i = k := by omega
    rw [this]; exact hk
end Go.Gv

/- Step by step: for each piece of code a lemma, so that goals stay small and the kernel compares little. -/
namespace Go.Gv
open Go

def thenK (c : Cf) (b : Code) (K : Ex → RS → Prop) : Ex → RS → Prop := fun e rs' => match e with
  | .normal => wpA c b rs' K
  | e => K e rs'
def blockK (id : Nat) (K : Ex → RS → Prop) : Ex → RS → Prop := fun e rs' => match e with
  | .exit i => match Nat.beq i id with
    | true => K .normal rs'
    | false => K (.exit i) rs'
  | e => K e rs'
def loopK (S B : List (Nat × Sh)) (inv : SDat (shL S B) → Prop) (μ : SDat (shL S B) → Nat) (x : SDat (shL S B)) (nx : Nat) (l : List Nat) (K : Ex → RS → Prop) : Ex → RS → Prop := fun e rs' => match e with
  | .normal => match loopIn S B rs', wrOK (keysS B) nx rs'.wr with
    | some ⟨x', ns', _, _⟩, true => match wrOK (keysS B) nx ns' with
      | true => inv x' ∧ μ x' < μ x
      | false => False
    | _, _ => False
  | e => K e (addWr l rs')
def retK (E : Env) (S : Spec) (x : SDat S.ins) (rl : List ResultVar) : Ex → RS → Prop := fun e rs => match e with
  | .ret => retA E S x rl rs
  | .normal => retA E S x rl rs
  | _ => False
def condK (c : Cf) (X : AP) (a b : Code) (rs : RS) (K : Ex → RS → Prop) : Prop := match X with
  | .blit true => wpA c a rs K
  | .blit false => wpA c b rs K
  | X => match propOf X with
    | some p => (p → More (wpA c a rs K)) ∧ (¬ p → More (wpA c b rs K))
    | none => False

/-- Go on at a state that is written out first. -/
def headK (rs : RS) (Q : RS → Prop) : Prop := ∀ K' : RS → Prop, (∀ rs', Q rs' → K' rs') → forceRS rs K'
noncomputable def loopG (c : Cf) (S B : List (Nat × Sh)) (inv : SDat (shL S B) → Prop) (μ : SDat (shL S B) → Nat) (b : Code) (rs : RS) (K : Ex → RS → Prop) : Prop :=
  match loopIn S B rs with
  | some ⟨x0, ns, _, _⟩ => inv x0 ∧ ∀ x, inv x → More (headK (loopHead S B (dsts b []) rs ns x) (fun rs' => wpA c b rs' (loopK S B inv μ x rs.nx (keysS B ++ ns ++ rs.wr) K)))
  | none => False
section
variable {c : Cf} {rs : RS} {K : Ex → RS → Prop} {a b : Code}
theorem w_seq (h : wpA c a rs (thenK c b K)) : wpA c (.seq a b) rs K := h
theorem w_skip (h : K .normal rs) : wpA c .skip rs K := h
theorem w_label {l : Nat} (h : K .normal rs) : wpA c (.label l) rs K := h
theorem w_exit {i : Nat} (h : K (.exit i) rs) : wpA c (.exit i) rs K := h
theorem w_ret (h : K .ret rs) : wpA c .ret rs K := h
theorem w_block {id : Nat} (h : wpA c b rs (blockK id K)) : wpA c (.block id b) rs K := h
theorem w_cond {x : Operand} (h : condK c (opA c.gl rs.slf [] x) a b rs K) : wpA c (.cond x a b) rs K := h
theorem w_region {id : Nat} {ops : Array Oper} {draw : Bool} (h : ∀ K' : RS → Prop, (∀ rs', K .normal rs' → K' rs') → runOps c ops.toList ops.toList 0 rs (fun rs' => emit c.keep draw ops.toList rs' K')) : wpA c (.region id ops draw) rs K := h _ (fun _ h => h)
theorem condK_t (h : wpA c a rs K) : condK c (.blit true) a b rs K := h
theorem condK_f (h : wpA c b rs K) : condK c (.blit false) a b rs K := h
theorem condK_p {p : Prop} (h1 : p → More (wpA c a rs K)) (h2 : ¬ p → More (wpA c b rs K)) : condK c (.dec p) a b rs K := ⟨h1, h2⟩
theorem condK_b {x : Bool} (h1 : x = true → More (wpA c a rs K)) (h2 : ¬ x = true → More (wpA c b rs K)) : condK c (.dat .bool x) a b rs K := ⟨h1, h2⟩
theorem thenK_n (h : wpA c b rs K) : thenK c b K .normal rs := h
theorem thenK_e {i : Nat} (h : K (.exit i) rs) : thenK c b K (.exit i) rs := h
theorem thenK_r (h : K .ret rs) : thenK c b K .ret rs := h
theorem blockK_n {id : Nat} (h : K .normal rs) : blockK id K .normal rs := h
theorem blockK_r {id : Nat} (h : K .ret rs) : blockK id K .ret rs := h
theorem blockK_x {id : Nat} (h : K .normal rs) : blockK id K (.exit id) rs := by
  unfold blockK
  simp only [Nat.beq_refl]
  exact h
theorem blockK_y {id i : Nat} (hb : Nat.beq i id = false) (h : K (.exit i) rs) : blockK id K (.exit i) rs := by
  unfold blockK
  simp only [hb]
  exact h
theorem w_head {Q : RS → Prop} (h : ∀ K' : RS → Prop, (∀ rs', Q rs' → K' rs') → forceRS rs K') : headK rs Q := h
theorem w_loop (S B : List (Nat × Sh)) (inv : SDat (shL S B) → Prop) (μ : SDat (shL S B) → Nat) (h : loopG c S B inv μ b rs K) : wpA c (.loop b) rs K := by
  unfold wpA
  refine ⟨S, B, inv, μ, ?_⟩
  unfold loopG at h
  split at h
  · rename_i x0 ns ex n hin
    rw [hin]
    exact ⟨h.1, fun x hx => ⟨(h.2 x hx).out _ fun _ h => h⟩⟩
  · exact h.elim
theorem loopK_at {S B : List (Nat × Sh)} {inv : SDat (shL S B) → Prop} {μ : SDat (shL S B) → Nat} {x : SDat (shL S B)} {nx : Nat} {l : List Nat} (h : loopK S B inv μ x nx l K .normal rs) : loopK S B inv μ x nx l K .normal rs := h
theorem loopK_e {S B : List (Nat × Sh)} {inv : SDat (shL S B) → Prop} {μ : SDat (shL S B) → Nat} {x : SDat (shL S B)} {nx0 : Nat} {l : List Nat} {i : Nat} {sl : List (Nat × PA)} {hp : List (Nat × HObj)} {nx : Nat} {gd : List (Nat × (Prop × Path))} {vc : List Prop} {tr : List (List Nat × List Nat)} {wr : List Nat}
    (h : K (.exit i) ⟨sl, hp, nx, gd, vc, tr, wr ++ l⟩) : loopK S B inv μ x nx0 l K (.exit i) ⟨sl, hp, nx, gd, vc, tr, wr⟩ := h
theorem loopK_r {S B : List (Nat × Sh)} {inv : SDat (shL S B) → Prop} {μ : SDat (shL S B) → Nat} {x : SDat (shL S B)} {nx0 : Nat} {l : List Nat} {sl : List (Nat × PA)} {hp : List (Nat × HObj)} {nx : Nat} {gd : List (Nat × (Prop × Path))} {vc : List Prop} {tr : List (List Nat × List Nat)} {wr : List Nat}
    (h : K .ret ⟨sl, hp, nx, gd, vc, tr, wr ++ l⟩) : loopK S B inv μ x nx0 l K .ret ⟨sl, hp, nx, gd, vc, tr, wr⟩ := h
theorem retK_r {E : Env} {S : Spec} {x : SDat S.ins} {rl : List ResultVar} (h : retA E S x rl rs) : retK E S x rl .ret rs := h
theorem retK_n {E : Env} {S : Spec} {x : SDat S.ins} {rl : List ResultVar} (h : retA E S x rl rs) : retK E S x rl .normal rs := h
theorem fn_goal {f : Func} {S : Spec} {x : SDat S.ins} (h : headK { sl := argsSl S.ins x, hp := intoH (fun k => k) S.ins x 0 [], nx := nn S.ins } (fun rs => wpA c (bodyOf f) rs (retK c.E S x f.results.toList))) : fnGoal c f S x := by
  unfold fnGoal
  refine h _ fun rs hrs => ?_
  revert hrs
  unfold retK
  exact id
theorem w_fn {code : Code} {E : Env} {S : Spec} {x : SDat S.ins} {rl : List ResultVar} (h : headK rs (fun rs' => wpA c code rs' (retK E S x rl))) : wpA c code rs (fun e rs => match e with
    | .ret => retA E S x rl rs
    | .normal => retA E S x rl rs
    | _ => False) := by
  have := h _ (fun _ h => h)
  rw [forceRS_eq] at this
  revert this
  unfold retK
  exact id
theorem w_at (h : wpA c a rs K) : wpA c a rs K := h
end
end Go.Gv

/- Decimal numerals: each is that of one number alone; a list of numerals, parted by signs that are no digits. No program in this text. -/
namespace Go.Gv
open Go Go.Lib

theorem dec_dig (u : Nat) : ∀ b ∈ decDigits u, 48 ≤ b.toNat ∧ b.toNat ≤ 57 := by
  induction u using Nat.strongRecOn with
  | _ u ih =>
    intro b hb
    by_cases h : u < 10
    · rw [decDigits, dif_pos h] at hb
      simp at hb; subst hb
      simp; omega
    · rw [decDigits, dif_neg h, List.mem_append] at hb
      rcases hb with hb | hb
      · exact ih (u / 10) (by omega) b hb
      · simp at hb; subst hb
        simp; omega

def decVal (l : List UInt8) : Nat := l.foldl (fun a b => a * 10 + (b.toNat - 48)) 0
theorem dec_val (u : Nat) : decVal (decDigits u) = u := by
  induction u using Nat.strongRecOn with
  | _ u ih =>
    by_cases h : u < 10
    · rw [decDigits, dif_pos h]
      simp [decVal]; omega
    · rw [decDigits, dif_neg h]
      have := ih (u / 10) (by omega)
      unfold decVal at this ⊢
      rw [List.foldl_append, this]
      simp; omega
theorem dec_inj {u v : Nat} (h : decDigits u = decDigits v) : u = v := by rw [← dec_val u, h, dec_val]

theorem itoa_ch (n : Int) : ∀ b ∈ itoa n, b.toNat = 45 ∨ (48 ≤ b.toNat ∧ b.toNat ≤ 57) := by
  intro b hb
  unfold itoa at hb
  split at hb
  · rcases List.mem_cons.1 hb with rfl | hb
    · exact .inl rfl
    · exact .inr (dec_dig _ b hb)
  · exact .inr (dec_dig _ b hb)
theorem itoa_not {n : Int} {b : UInt8} (h : b ∈ itoa n) : b ≠ 44 ∧ b ≠ 46 ∧ b ≠ 42 ∧ b ≠ 94 ∧ b ≠ 120 ∧ b ≠ 32 ∧ b ≠ 43 := by
  have := itoa_ch n b h
  refine ⟨?_, ?_, ?_, ?_, ?_, ?_, ?_⟩ <;> (rintro rfl; revert this; decide)
theorem itoa_inj {m n : Int} (h : itoa m = itoa n) : m = n := by
  unfold itoa at h
  have key : ∀ u v : Nat, (45 : UInt8) :: decDigits u ≠ decDigits v := fun u v e => by
    have := dec_dig v 45 (by rw [← e]; exact List.mem_cons_self)
    revert this; decide
  split at h <;> split at h
  · have := dec_inj (List.cons.inj h).2; omega
  · exact (key _ _ h).elim
  · exact (key _ _ h.symm).elim
  · have := dec_inj h; omega
theorem itoa_pos (n : Int) : itoa n ≠ [] := by
  unfold itoa
  split
  · simp
  · intro e
    have := congrArg List.length e
    rw [decDigits_length] at this
    have h1 := nDigits_pos n.toNat
    simp at this; omega

theorem split_sep {α : Type} {s : α} : ∀ {l1 l2 r1 r2 : List α}, s ∉ l1 → s ∉ l2 → l1 ++ s :: r1 = l2 ++ s :: r2 → l1 = l2 ∧ r1 = r2
  | [], [], r1, r2, _, _, h => ⟨rfl, (List.cons.inj h).2⟩
  | [], b :: l2, r1, r2, _, h2, h => (h2 (by rw [(List.cons.inj h).1]; exact List.mem_cons_self)).elim
  | a :: l1, [], r1, r2, h1, _, h => (h1 (by rw [← (List.cons.inj h).1]; exact List.mem_cons_self)).elim
  | a :: l1, b :: l2, r1, r2, h1, h2, h => by
    obtain ⟨e, h⟩ := List.cons.inj h
    obtain ⟨e1, e2⟩ := split_sep (fun hm => h1 (List.mem_cons_of_mem _ hm)) (fun hm => h2 (List.mem_cons_of_mem _ hm)) h
    exact ⟨by rw [e, e1], e2⟩

/-- Numerals, each with a sign ahead. -/
def sepD (s : UInt8) (l : List Int) : List UInt8 := l.flatMap fun k => s :: itoa k
theorem sepD_inj {s : UInt8} (hs : ∀ n, s ∉ itoa n) : ∀ {ks ls : List Int} {a b : Int}, itoa a ++ sepD s ks = itoa b ++ sepD s ls → a = b ∧ ks = ls
  | [], [], a, b, h => ⟨itoa_inj (by simpa [sepD] using h), rfl⟩
  | [], k :: ls, a, b, h => by
    have : s ∈ itoa a := by
      have : s ∈ itoa a ++ sepD s [] := by rw [h]; simp [sepD]
      simpa [sepD] using this
    exact (hs a this).elim
  | k :: ks, [], a, b, h => by
    have : s ∈ itoa b := by
      have : s ∈ itoa b ++ sepD s [] := by rw [← h]; simp [sepD]
      simpa [sepD] using this
    exact (hs b this).elim
  | k :: ks, l :: ls, a, b, h => by
    have e1 : ∀ (k : Int) (ks : List Int), sepD s (k :: ks) = s :: (itoa k ++ sepD s ks) := fun k ks => by simp [sepD]
    rw [e1, e1] at h
    obtain ⟨h1, h2⟩ := split_sep (hs a) (hs b) h
    obtain ⟨h3, h4⟩ := sepD_inj hs h2
    exact ⟨itoa_inj h1, by rw [h3, h4]⟩

/-- The name of a gate: kind, number of the variable, kids. -/
def nameD (k v : Int) (ks : List Int) : List UInt8 := itoa k ++ 46 :: (itoa v ++ sepD 44 ks)
theorem nameD_inj {k v k' v' : Int} {ks ks' : List Int} (h : nameD k v ks = nameD k' v' ks') : k = k' ∧ v = v' ∧ ks = ks' := by
  obtain ⟨h1, h2⟩ := split_sep (fun hm => (itoa_not hm).2.1 rfl) (fun hm => (itoa_not hm).2.1 rfl) h
  obtain ⟨h3, h4⟩ := sepD_inj (fun n hm => (itoa_not hm).1 rfl) h2
  exact ⟨itoa_inj h1, h3, h4⟩
end Go.Gv

/- A contract of a function that touches no memory, out of what is known of its calls. -/
namespace Go.Gv
open Go

theorem castDat_self {t : Ty} {x : Dat t} : castDat t t x = some x := by unfold castDat; rw [dif_pos rfl]
theorem toDat_dat (hp : Nat → HObj) (t : Ty) (x : Dat t) : toDat hp t (.dat t x) = some x := by
  cases t <;> simp only [toDat, toDat1, castDat_self]

/-- A list of plain data. -/
def datSh : Sh → Bool
  | .nil => true
  | .cons (.d _) s => datSh s
  | _ => false

theorem fromA_into (hp : Nat → HObj) : ∀ (s : Sh), datSh s = true → ∀ (x : SDat s) (nm : Nat → Nat) (n nx : Nat), fromA hp s (intoA nm s x n) nx = some ⟨x, [], [], nx⟩
  | .nil, _, x, _, _, _ => rfl
  | .cons (.d t) s, h, x, nm, n, nx => by
    have ih := fromA_into hp s h x.2 nm (n + 0) nx
    simp only [intoA, nn] at ih ⊢
    simp only [fromA, toDat_dat, ih]
    rfl
theorem fromA_end (hp : Nat → HObj) : ∀ (s : Sh), datSh s = true → ∀ (x : SDat s) (n nx : Nat), fromA hp (backS s) (endAP s x n) nx = some ⟨keepS s x, [], [], nx⟩
  | .nil, _, x, _, _ => rfl
  | .cons (.d t) s, h, x, n, nx => by
    have ih := fromA_end hp s h x.2 (n + 0) nx
    simp only [endAP, backS, nn] at ih ⊢
    simp only [fromA, toDat_dat, ih]
    rfl
theorem listA_into : ∀ (s : Sh), datSh s = true → ∀ (x : SDat s) (nm : Nat → Nat) (n : Nat), ∃ L, listA L = intoA nm s x n
  | .nil, _, _, _, _ => ⟨[], rfl⟩
  | .cons (.d t) s, h, x, nm, n => by
    obtain ⟨L, hL⟩ := listA_into s h x.2 nm (n + nn (.d t))
    exact ⟨.dat t x.1 :: L, by unfold listA; rw [hL]; rfl⟩

theorem pure_ok {P : Program} {gl : Glob} {f : FuncId} {fn : Func} {n : Nat} {ins outs : Sh} {pre : SDat ins → Prop} {res : SDat ins → SDat outs} (hf : FnOK P f fn n) (hi : datSh ins = true) (ho : datSh outs = true)
    (h : ∀ x, pre x → ∀ (β : Asg) (G : GW) (args : List Value), (∀ g t y, gl g = some ⟨t, y⟩ → sat (.ptr t y) β G (.pointer (some ⟨g, 0, none⟩))) → satT (intoA (fun k => k) ins x 0) β G args →
      Calls P f args.toArray G.w (fun e w' => ∃ vs, e = .returned (resV vs) ∧ w' = G.w ∧ satT (intoA (fun k => k) outs (res x) 0) β G vs)) :
    SpecOK P gl f { ins := ins, pre := pre, alts := [{ outs := outs, res := res }] } := by
  refine ⟨⟨fn, hf.at', by have := hf.body; revert this; cases fn.body <;> simp, hf.name⟩, fun x hpre => ⟨_, rfl, fun C β G args hg H hargs => ?_⟩⟩
  refine Calls.mono (h x hpre β G args (fun g t y hy => H.glob g t y (by rw [hg]; exact hy)) hargs) fun e w' hr => ?_
  obtain ⟨vs, rfl, rfl, hv⟩ := hr
  obtain ⟨L, hL⟩ := listA_into outs ho (res x) (fun k => k) 0
  exact ⟨⟨_, β, G, L, vs, nn ins, res x, [], [], nn ins, keepS ins x, [], [], nn ins, rfl, H, Asg.le_refl β, G.le_refl, rfl, by rw [hL]; exact hv, fun k hk => canon_out ins x hk, by rw [hL]; exact fromA_into _ outs ho (res x) _ 0 _, fromA_end _ ins hi x 0 _, rfl, rfl, rfl, rfl⟩⟩

/-- Two contracts for parts of the arguments are one. -/
theorem SpecOK.either {P : Program} {gl : Glob} {f : FuncId} {ins : Sh} {pre q : SDat ins → Prop} {sel : SDat ins → Nat} {alts : List (Alt ins)} {ro : Bool} (h1 : SpecOK P gl f { ins := ins, pre := fun x => pre x ∧ q x, sel := sel, alts := alts, ro := ro })
    (h2 : SpecOK P gl f { ins := ins, pre := fun x => pre x ∧ ¬ q x, sel := sel, alts := alts, ro := ro }) : SpecOK P gl f { ins := ins, pre := pre, sel := sel, alts := alts, ro := ro } :=
  ⟨h1.1, fun x hp => (Classical.em (q x)).elim (fun hq => h1.2 x ⟨hp, hq⟩) (fun hq => h2.2 x ⟨hp, hq⟩)⟩
end Go.Gv

/- A law's row: its arguments read as data; a listed table; what the row asks. -/
namespace Go.Gv
open Go

theorem cell_noAgg {P : Program} {w : World} {r : Reach} {base : Nat} {t : TypeId} {v : Value} (h : Cell.okWide P w r base t v) : ∀ c, v ≠ .agg c := by
  rintro c rfl
  unfold Cell.okWide at h
  split at h <;> first | (rename_i h2; cases h2; done) | skip
  rename_i a b
  all_goals (try (cases ‹Value.agg c = _›))
  unfold Cell.ok at h
  split at h <;> first | exact h | (cases ‹Value.agg c = _›)

/-- The parameters' types are those of the shape. -/
def argsB (P : Program) : Sh → List TypeId → Bool
  | .nil, [] => true
  | .cons (.d t) s, T :: r => plainTy t && tym P t T && argsB P s r
  | _, _ => false

theorem noAgg_of {P : Program} {w : World} {r : Reach} {base : Nat} {t : Ty} {T : TypeId} {v : Value} (hp : plainTy t = true) (ht : tym P t T = true) (hok : Value.okWide P w r base T v) : t.agg = true ↔ ∃ c, v = .agg c := by
  cases t with
  | int k => have := und_int ht; unfold Value.okWide at hok; rw [this] at hok; exact ⟨fun h => (by cases h), fun ⟨c, e⟩ => (cell_noAgg hok c e).elim⟩
  | bool => have := und_bool ht; unfold Value.okWide at hok; rw [this] at hok; exact ⟨fun h => (by cases h), fun ⟨c, e⟩ => (cell_noAgg hok c e).elim⟩
  | str => have := und_str ht; unfold Value.okWide at hok; rw [this] at hok; exact ⟨fun h => (by cases h), fun ⟨c, e⟩ => (cell_noAgg hok c e).elim⟩
  | sl t => obtain ⟨e, this, _⟩ := und_sl ht; unfold Value.okWide at hok; rw [this] at hok; exact ⟨fun h => (by cases h), fun ⟨c, e⟩ => (cell_noAgg hok c e).elim⟩
  | nl => simp [tym] at ht
  | cs a b => simp [tym] at ht
  | st fs => obtain ⟨f, this, _⟩ := und_st ht; unfold Value.okWide at hok; rw [this] at hok; exact ⟨fun _ => let ⟨c, e, _⟩ := hok; ⟨c, e⟩, fun _ => rfl⟩
  | arr n t => obtain ⟨e, this, _⟩ := und_arr ht; unfold Value.okWide at hok; rw [this] at hok; exact ⟨fun _ => let ⟨c, e, _⟩ := hok; ⟨c, e⟩, fun _ => rfl⟩
  | mp k v => cases hp
  | pt t => cases hp
  | ot k => cases hp

section
variable {H : Type} {enc : TypeId × Value → H} {P : Program} {W : World}

/-- What reads as data of the parameters' types holds data of the shape. -/
theorem args_sat {base : Nat} : ∀ (s : Sh) (ts : List TypeId) (vs : List Value) (ds : List (DataW H)) (ps : List MemPlace), argsB P s ts = true → (∀ (j : Nat) t v, ts[j]? = some t → vs[j]? = some v → Value.okWide P W .any base t v) →
    DataW.TrodAll enc P W 0 (fun _ => true) true ts vs ds ps → ∃ x : SDat s, ∀ (nm : Nat → Nat) (n : Nat), satT (intoA nm s x n) (fun _ => none) (GW.all W) vs
  | .nil, [], vs, ds, ps, _, _, h => by
    cases vs with
    | nil => exact ⟨(), fun _ _ => by show satT .nil _ _ _; unfold satT; rfl⟩
    | cons v r => cases ds <;> exact h.elim
  | .cons (.d t) s, T :: r, vs, ds, ps, hb, hok, h => by
    unfold argsB at hb
    simp only [Bool.and_eq_true] at hb
    obtain ⟨⟨hp, ht⟩, hb⟩ := hb
    cases vs with
    | nil => cases ds <;> exact h.elim
    | cons v vs =>
      cases ds with
      | nil => exact h.elim
      | cons d ds =>
        obtain ⟨p, q, ⟨fuel, hd⟩, hr, _⟩ := h
        obtain ⟨x, hx⟩ := trod_rep t hp T fuel _ _ ht hd
        obtain ⟨y, hy⟩ := args_sat s r vs ds q hb (fun j t v h1 h2 => hok (j + 1) t v (by simpa using h1) (by simpa using h2)) hr
        refine ⟨(x, y), fun nm n => ?_⟩
        show satT (.cons (.dat t x) _) _ _ _
        unfold satT
        refine ⟨v, vs, rfl, ?_, hy nm _⟩
        unfold sat
        exact ⟨noAgg_of hp ht (hok 0 T v rfl rfl), hx⟩
  | .nil, _ :: _, _, _, _, hb, _, _ => by cases hb
  | .cons (.d _) _, [], _, _, _, hb, _, _ => by cases hb
  | .d _, _, _, _, _, hb, _, _ => by simp [argsB] at hb
  | .row _, _, _, _, _, hb, _, _ => by simp [argsB] at hb
  | .spare _, _, _, _, _, hb, _, _ => by simp [argsB] at hb
  | .map _ _, _, _, _, _, hb, _, _ => by simp [argsB] at hb
  | .box _, _, _, _, _, hb, _, _ => by simp [argsB] at hb
  | .clos _ _, _, _, _, _, hb, _, _ => by simp [argsB] at hb
  | .nilp, _, _, _, _, hb, _, _ => by simp [argsB] at hb
  | .cons (.row _) _, _, _, _, _, hb, _, _ => by simp [argsB] at hb
  | .cons (.spare _) _, _, _, _, _, hb, _, _ => by simp [argsB] at hb
  | .cons (.map _ _) _, _, _, _, _, hb, _, _ => by simp [argsB] at hb
  | .cons (.box _) _, _, _, _, _, hb, _, _ => by simp [argsB] at hb
  | .cons (.clos _ _) _, _, _, _, _, hb, _, _ => by simp [argsB] at hb
  | .cons .nilp _, _, _, _, _, hb, _, _ => by simp [argsB] at hb
  | .cons .nil _, _, _, _, _, hb, _, _ => by simp [argsB] at hb
  | .cons (.cons _ _) _, _, _, _, _, hb, _, _ => by simp [argsB] at hb

/-- What a listed table of integers gives. -/
theorem tab_sat {g : Nat} {k : IntKind} {zs : List Int} {name : String} (h : Lib.TabIs P W name k zs) (hg : P.globalNamed name = some g) (hz : ∀ z ∈ zs, lo k ≤ z ∧ z ≤ hi k) : sat (.ptr (.arr zs.length (.int k)) zs) (fun _ => none) (GW.all W) (.pointer (some ⟨g, 0, none⟩)) := by
  unfold sat
  refine ⟨g, 0, zs.map (fun z => .int k z), rfl, fun j v hv => ?_, ?_⟩
  · rw [List.getElem?_map, Option.map_eq_some_iff] at hv
    obtain ⟨z, hj, rfl⟩ := hv
    have h2 := h.cell hg j (List.getElem?_eq_some_iff.1 hj).1
    rw [List.getD_eq_getElem?_getD, hj] at h2
    rw [Nat.zero_add]
    exact ⟨cell_lt h2, h2⟩
  · unfold Rep
    refine ⟨rfl, by simp [Ty.size], fun i x hx => ?_⟩
    unfold Rep
    have hi' := (List.getElem?_eq_some_iff.1 hx).1
    refine ⟨?_, has_iff.2 (hz _ (List.mem_of_getElem? hx))⟩
    apply List.ext_getElem?
    intro j
    simp only [Ty.size, Nat.mul_one, List.getElem?_take, List.getElem?_drop, List.getElem?_map]
    by_cases hj : j < 1
    · have : j = 0 := by omega
      subst this
      rw [if_pos hj, Nat.add_zero, hx]; rfl
    · rw [if_neg hj]
      cases j with
      | zero => omega
      | succ j => rfl

/-- A listed variable, anywhere in the list. -/
theorem laidVars_at : ∀ {l : List (String × DataW Unit)} {ps : List MemPlace}, DataW.LaidVars P W l ps → ∀ x ∈ l, ∃ ps', DataW.LaidVars P W [x] ps'
  | [], _, _, x, hx => by cases hx
  | (n, d) :: l, ps, h, x, hx => by
    obtain ⟨g, t, cs, fuel, p, q, h1, h2, h3, h4, h5, h6⟩ := h
    rcases List.mem_cons.1 hx with rfl | hx
    · exact ⟨_, g, t, cs, fuel, p, [], h1, h2, h3, h4, rfl, rfl⟩
    · exact laidVars_at h5 x hx
theorem tab_of_list {l : List (String × DataW Unit)} (h : laidMet P l W) {name : String} {k : IntKind} {zs : List Int} {i : Nat} (hx : l[i]? = some (name, Lib.tabData k zs)) {g n : Nat} {t e : TypeId} (hg : P.globalNamed name = some g) (hty : (P.globals[g]?).map (·.type) = some t) (ht : P.underlying t = some (.array n e))
    (he : P.underlying e = some (.int k)) (hce : P.cellsOf e = 1) (hct : P.cellsOf t = n) : Lib.TabIs P W name k zs := by
  obtain ⟨ps, h1, _⟩ := h
  obtain ⟨ps', h2⟩ := laidVars_at h1 _ (List.mem_of_getElem? hx)
  obtain ⟨g', t', cs, fuel, p, q, hg', ht', hvar, hd, _, _⟩ := h2
  obtain rfl := Option.some.inj (hg.symm.trans hg')
  obtain rfl := Option.some.inj (hty.symm.trans ht')
  unfold Lib.TabIs
  rw [hvar, ← Lib.cells_of_tab ht he hce hct hd]
theorem laid_plain {l : List (String × DataW Unit)} (h : laidMetH P l W) (he : (l.filter fun x => x.2.handleName?.isSome) = []) : laidMet P l W := by
  unfold laidMetH at h
  rw [he] at h
  exact h

theorem trodAll_len : ∀ {ts : List TypeId} {vs : List Value} {ds : List (DataW H)} {ps : List MemPlace} {base : Nat} {sp : Nat → Bool} {held : Bool}, DataW.TrodAll enc P W base sp held ts vs ds ps → ds.length = ts.length
  | [], [], [], _, _, _, _, _ => rfl
  | _ :: _, _ :: _, _ :: _, _, _, _, _, ⟨_, _, _, h, _⟩ => congrArg (· + 1) (trodAll_len h)

/-- A law whose function answers true: what its row asks of a call. -/
theorem law_row {gl : Glob} {f : FuncId} {fn : Func} {ins : Sh} {pre : SDat ins → Prop} {res : SDat ins → SDat (.cons (.d .bool) .nil)} (hS : SpecOK P gl f { ins := ins, pre := pre, alts := [{ outs := .cons (.d .bool) .nil, res := res }] }) (hpre : ∀ x, pre x) (htrue : ∀ x, res x = (true, ()))
    (hins : argsB P ins fn.params.toList = true) (hnn : nn ins = 0) (hl : laidOutB P = true) (hm : mapsRowed P = true)
    (hfull : ((List.range P.types.size).all fun t => match P.underlying t with | some (.slice e) => decide (0 < P.cellsOf e) | _ => true) = true) (hty : (fn.params.toList.all fun t => decide (t < P.types.size)) = true) {tb : TypeId} (hres : fn.resultTypes = #[tb]) (htb : P.underlying tb = some .bool)
    {s : ChangeSpec} (hvars : s.vars = []) (hfn : ∀ ds : List (DataW H), ds.length = fn.params.size → s.fn H ds = { results := [.lit (.bool true)], args := ds }) {apart fresh handsOn : Bool} {base : Nat} {args : Array Value} {ds gs : List (DataW H)} {before : List MemPlace}
    (hgl : ∀ g t y, gl g = some ⟨t, y⟩ → sat (.ptr t y) (fun _ => none) (GW.all W) (.pointer (some ⟨g, 0, none⟩)))
    (hval : ∀ (j : Nat) t v, fn.params[j]? = some t → args[j]? = some v → Value.okWide P W .any base t v) (hW : DataW.Whole enc P fn.params.toList s.vars apart W args.toList ds gs before) :
    Calls P f args W fun e W' => ∃ v, e = .returned v ∧ s.post enc P fn apart fresh handsOn false W args v W' := by
  have hW' := hW
  obtain ⟨p, q, hA, _⟩ := hW
  obtain ⟨x, hx⟩ := args_sat ins fn.params.toList args.toList ds p hins (fun j t v h1 h2 => hval j t v (by simpa using h1) (by simpa using h2)) hA
  obtain ⟨A, hAs, hc⟩ := law_calls hS (x := x) (hpre x) hnn (hx _ _) hgl
  have hAe : A = { outs := .cons (.d .bool) .nil, res := res } := by
    have : some A = some _ := hAs.symm.trans (rfl : _ = some ({ outs := .cons (.d .bool) .nil, res := res } : Alt ins))
    exact Option.some.inj this
  subst hAe
  have hc : Calls P f args W _ := hc
  refine hc.mono fun e W' h => ?_
  obtain ⟨v, rfl, β', G', rfl, hst, hv⟩ := h
  have hv2 : sat (.dat .bool true) β' G' v := by
    have : resA (.cons (.d .bool) .nil) (res x) 0 = .dat .bool true := by rw [htrue x]; rfl
    rw [← this]; exact hv
  unfold sat at hv2
  have h3 := hv2.to_one rfl
  unfold Rep at h3
  simp only [List.cons.injEq, and_true] at h3
  subst h3
  refine ⟨_, rfl, law_post hl hm hfull hW' hvars (fun t ht => ?_) hres htb (hfn ds (by rw [trodAll_len hA]; simp)) hst⟩
  exact of_decide_eq_true (List.all_eq_true.1 hty t ht)
end

/-! ### a world for the witness -/
def litV : DataW Unit → Value
  | .lit (.int k n) => .int k n
  | .lit (.bool b) => .bool b
  | .lit (.string b) => .string ⟨b.toArray⟩
  | _ => .slice none 0 0
def datV : DataW Unit → Array Value
  | .agg ds => (ds.map litV).toArray
  | d => #[litV d]
/-- A package variable's cells laid in a world. -/
def putG (w : World) (g : Nat) (d : DataW Unit) : World := { w with heap := w.heap.modify g fun
  | .cells _ t fz => .cells (datV d) t fz
  | o => o }
end Go.Gv
