/- A verified generator of conditions over the code of the model. Part 7. -/
import Derived.Test.YtklcfpomppgblaaGreatDoorGf
import Derived.Deep.Slices
import Derived.OpenShut
import Derived.ReadAgain
import Derived.ProofKit
set_option linter.all false

/- A RANGE OVER A FUNCTION: one round, all rounds. -/
namespace Go.Gv
open Go
@[reducible] def recOf (fn : FuncId) (tmps : Array Value) (ps : Array Tmp) (asg b : Code) (D : Nat) (st : LoopState) (pe : Option Code) : Loop :=
 { state := st, pending := pe, fn := fn, tmps := tmps, params := ps, assign := asg, body := b, defers := D }
def exCode : Ex → Option Code
 | .normal => none
 | .exit id => some (.exit id)
 | .ret => some .ret
structure RF where
 c : Cf
 ts : List Ty
 B : List (Nat × Sh)
 ps : Array Tmp
 asg : Code
 b : Code
 rs : RS
 ns : List Nat
 β : Asg
 G : GW
 tmps : Array Value
 fn : FuncId
 D : Nat
 L : Nat
 inv : List (TDat ts) → SDat (shB B) → Prop
 K : Ex → RS → Prop
namespace RF
variable (f : RF)
def head (x : SDat (shB f.B)) : RS := loopHead [] f.B [] f.rs f.ns ((), x)
def E (x : SDat (shB f.B)) (βx : Asg) : Eater := mkEater f.c.gl f.c.nz f.L (recOf f.fn f.tmps f.ps f.asg f.b f.D .ready none) f.G (f.head x).hpf βx
def EJ (e : Ex) (rs' : RS) (β' : Asg) : Eater := mkEater f.c.gl f.c.nz f.L (recOf f.fn f.tmps f.ps f.asg f.b f.D .done (exCode e)) f.G rs'.hpf β'
def Ready (x : SDat (shB f.B)) (βx : Asg) : Prop := (∃ C G, Sim C (f.head x) βx { tmps := f.tmps, defers := [] } G) ∧ f.β.le βx ∧ Ext f.rs (addWr (keysS f.B ++ f.ns ++ f.rs.wr) (f.head x))
def out (rs' : RS) : RS := addWr (keysS f.B ++ f.ns ++ f.rs.wr) (withSl f.rs.sl rs')
def Done (E' : Eater) : Prop := (∃ x βx, f.inv [] x ∧ f.Ready x βx ∧ E' = f.E x βx) ∨
 ∃ e rs' β', e ≠ .normal ∧ f.K e (f.out rs') ∧ (∃ C a G, Sim C rs' β' a G) ∧ f.β.le β' ∧ Ext f.rs (f.out rs') ∧ E' = f.EJ e rs' β'
def round (y : TDat f.ts) (r : List (TDat f.ts)) (x : SDat (shB f.B)) : Prop := wpA f.c f.asg (roundHead f.ts f.B f.ps.toList f.rs f.ns y ((), x)) (rfA (fun rs1 => wpA f.c f.b rs1 (rfK f.B f.rs f.ns (f.inv r) f.K)))
end RF
theorem round_hpf {ts : List Ty} {B : List (Nat × Sh)} {ps : List Nat} {rs : RS} {ns : List Nat} {y : TDat ts} {x : SDat (shL [] B)} : (roundHead ts B ps rs ns y x).hpf = (loopHead [] B [] rs ns x).hpf := rfl
theorem round_nx {ts : List Ty} {B : List (Nat × Sh)} {ps : List Nat} {rs : RS} {ns : List Nat} {y : TDat ts} {x : SDat (shL [] B)} : (roundHead ts B ps rs ns y x).nx = (loopHead [] B [] rs ns x).nx := rfl
theorem round_wr {ts : List Ty} {B : List (Nat × Sh)} {ps : List Nat} {rs : RS} {ns : List Nat} {y : TDat ts} {x : SDat (shL [] B)} : (roundHead ts B ps rs ns y x).wr = [] := rfl
theorem slf_look (rs : RS) (s : Nat) : rs.slf s = (match lookN rs.sl s with | some p => p | none => ⟨[], .any⟩) := rfl
theorem head_hpf0 {C : Ctx} {rs : RS} {β : Asg} {a : Act} {G : GW} (_hs : Sim C rs β a G) {S B : List (Nat × Sh)} {x0 : SDat (shL S B)} {ns0 : List Nat} {ex0 : List (Nat × HObj)} {n0 : Nat} (hin : loopIn S B rs = some ⟨x0, ns0, ex0, n0⟩) {x : SDat (shL S B)} {ds : List Nat} {n : Nat} (hn : n < rs.nx) (hnn : n ∉ ns0) :
    (loopHead S B ds rs ns0 x).hpf n = rs.hpf n := by
 obtain ⟨f0, _, _, _, _, _, _, _, fB0, e0, _⟩ := loopIn_spec hin
 rw [hpf_hset]
 show hset (fun _ => HObj.none) (intoH (nmL (rootsL S B) rs.nx) (shL S B) x 0 (deadL (ltN rs.nx ns0) rs.hp)) n = _
 rw [intoH_eq]
 rcases hset_zipN_cases (nmL (rootsL S B) rs.nx) (fun _ => HObj.none) (objsA (nmL (rootsL S B) rs.nx) (shL S B) x 0) 0 (deadL (ltN rs.nx ns0) rs.hp) n with ⟨k, o, h1, h2, h3⟩ | ⟨h1, h2⟩
 · exfalso
   rw [Nat.zero_add] at h2
   by_cases hr : ∃ y, (rootsL S B)[k]? = some (some y)
   · obtain ⟨y, hr⟩ := hr
     rw [nmL_root hr] at h2
     subst h2
     obtain ⟨k1, _⟩ := locB_roots B _ _ _ _ _ fB0
     unfold rootsL at hr
     by_cases hlt : k < nn (shS S)
     · rw [List.getElem?_append_left (by simpa using hlt), List.getElem?_replicate, if_pos hlt] at hr; cases hr
     · rw [List.getElem?_append_right (by simp; omega), List.length_replicate] at hr
       exact hnn (by rw [e0]; exact List.mem_append_right _ (List.mem_of_getElem? (k1 _ _ hr).1))
   · rw [nmL_new (fun y e => hr ⟨y, e⟩)] at h2; omega
 · rw [h2, hset_deadL, if_neg (fun hm => hnn (ltN_mem.1 hm).1), ← hpf_hset]
theorem wrOK_spec' {B : List Nat} {nx : Nat} : ∀ {l : List Nat}, wrOK B nx l = true → ∀ h ∈ l, h ∈ B ∨ nx ≤ h
 | [], _, h, hm => by cases hm
 | a :: r, hw, h, hm => by
  unfold wrOK at hw
  have hr : (a ∈ B ∨ nx ≤ a) ∧ wrOK B nx r = true := by
   split at hw
   · cases hw
   · rename_i hne
     refine ⟨?_, hw⟩
     cases h1 : memN B a with
     | true => exact .inl (memN_iff.1 h1)
     | false =>
      cases h2 : Nat.ble nx a with
      | true => exact .inr (Nat.le_of_ble_eq_true h2)
      | false => exact (hne h1 h2).elim
  rcases List.mem_cons.1 hm with rfl | hm
  · exact hr.1
  · exact wrOK_spec' hr.2 h hm
theorem out_ext {f : RF} {hd rs' : RS} (hext : Ext hd rs') (hh : ∀ n, n < f.rs.nx → n ∉ f.ns → hd.hpf n = f.rs.hpf n) (hle : f.rs.nx ≤ hd.nx) : Ext f.rs (f.out rs') := by
 cases rs' with
 | mk sl hp nx gd vc tr wr =>
  refine ⟨fun n hn => List.mem_append_right _ (List.mem_append_right _ hn), fun n hn hnw => ?_, Nat.le_trans hle hext.nx⟩
  have h1 : n ∉ wr := fun h => hnw (List.mem_append_left _ h)
  have h2 : n ∉ f.ns := fun h => hnw (List.mem_append_right _ (List.mem_append_left _ (List.mem_append_right _ h)))
  exact (hext.hpf n (Nat.lt_of_lt_of_le hn hle) h1).trans (hh n hn h2)
theorem withSl_sim {C : Ctx} {rs : RS} {β : Asg} {a : Act} {G : GW} (S : Sim C rs β a G) (tmps : Array Value) (h : tmps.size = C.N) : Sim C (withSl [] rs) β { tmps := tmps, defers := [] } G := by
 cases rs with
 | mk sl hp nx gd vc tr wr =>
  exact ⟨fun γ => ⟨fun s => ⟨fun _ => by show sat AP.any _ _ _; unfold sat; trivial, fun hn => (hn (fun e he => by cases he)).elim⟩, h, Marks.nil _ _, S.inv⟩, fun s => rfl, S.fresh, S.gd, S.vc, S.tr⟩
theorem withSl_in {B : List (Nat × Sh)} (rs : RS) (sl : List (Nat × PA)) : loopIn [] B (withSl sl rs) = loopIn [] B rs := by cases rs; rfl
section
variable {P : Program} {f : RF} (iha : WpSound P f.c f.asg) (ihb : WpSound P f.c f.b) (hna : noRF f.asg = true) (hnb : noRF f.b = true)
 {C : Ctx} (hN : C.N = f.c.N) {a : Act} (S0 : Sim C f.rs f.β a f.G) (ha : a.tmps = f.tmps) {x0 : SDat (shL [] f.B)} {ex0 : List (Nat × HObj)} {n0 : Nat} (hin : loopIn [] f.B f.rs = some ⟨x0, f.ns, ex0, n0⟩)
 (hps : psOK f.c.N f.ps.toList f.ts = true)
include iha ihb hna hnb hN S0 ha hin hps
theorem round_bite {y : TDat f.ts} {r : List (TDat f.ts)} {x : SDat (shB f.B)} {βx : Asg} (hR : f.Ready x βx) (hgoal : f.round y r x) :
    Bite P f.ts y (f.E x βx) (fun q E' => if q = true then ∃ x' βx', f.inv r x' ∧ f.Ready x' βx' ∧ E' = f.E x' βx' else f.Done E') := by
 intro v Gi vals hj hold hsat
 obtain ⟨hv, hrec, A, HJ, hgl, hnz, hsl⟩ := hj
 obtain ⟨⟨C', G', SR⟩, hle, hextR⟩ := hR
 have htN : f.tmps.size = f.c.N := by rw [← ha, ← hN]; exact (S0.holds (fun _ => false)).size
 obtain ⟨tm, htm⟩ : ∃ tm : Array Value, tm = (f.ps.toList.zip vals).foldl (fun (tmps : Array Value) (p : Nat × Value) => tmps.setIfInBounds p.1 p.2) f.tmps := ⟨_, rfl⟩
 have hlen : vals.toArray.size = f.ps.size := by
  have h1 := satD_len hsat
  have h2 := psOK_len hps
  simp at h2 ⊢; omega
 have hy : (Instr.yield f.L vals.toArray).run P Gi.w = .ok (.round f.L f.fn tm f.asg f.b) Gi.w := by
  have := run_yield (P := P) (args := vals.toArray) hrec hlen
  rw [← Array.foldl_toList, Array.toList_zip] at this
  rw [htm]; exact this
 refine ⟨f.L, f.fn, tm, f.asg, f.b, hv, hy, roundIn_of_wpIn (F := Fence.wide) trivial ?_⟩
 have hsl0 : ∀ s, sat (f.rs.slf s).ap f.β f.G (f.tmps.getD s undef) := fun s => by
  rw [← ha]
  exact ((S0.holds (fun _ => false)).slots s).1 (fun e he => by
   have he' : e ∈ (f.rs.slf s).path := he
   rw [S0.flat s] at he'; cases he')
 have S1 : Sim (ctxSelf (f.head x).hpf βx Gi f.c.gl f.c.N) (roundHead f.ts f.B f.ps.toList f.rs f.ns y ((), x)) βx { tmps := tm, defers := [] } Gi := by
  have hslot : ∀ s, ((roundHead f.ts f.B f.ps.toList f.rs f.ns y ((), x)).slf s).path = [] ∧ sat ((roundHead f.ts f.B f.ps.toList f.rs f.ns y ((), x)).slf s).ap βx Gi (tm.getD s undef) := fun s => by
   rw [slf_look, round_sl]
   cases hl : lookN (putT f.ps.toList f.ts y f.rs.sl) s with
   | none => exact ⟨rfl, by unfold sat; trivial⟩
   | some p =>
    dsimp only
    rcases putT_spec (β := βx) f.rs.sl hps hsat htN s p hl with h1 | ⟨h1, h2⟩
    · rw [htm]; exact h1
    · have hp : f.rs.slf s = p := by rw [slf_look, h2]
      refine ⟨by rw [← hp]; exact S0.flat s, ?_⟩
      rw [htm, h1, ← hp]
      exact sat.monoW _ (hsl0 s) hle hsl
  refine ⟨fun γ => ⟨fun s => ⟨fun _ => (hslot s).2, fun hn => (hn (fun e he => ?_)).elim⟩, ?_, Marks.nil _ _, HInv.self _ (HJ.ok hold) hgl⟩, fun s => (hslot s).1, SR.fresh, SR.gd, SR.vc, SR.tr⟩
  · have he' : e ∈ ((roundHead f.ts f.B f.ps.toList f.rs f.ns y ((), x)).slf s).path := he
    rw [(hslot s).1] at he'; cases he'
  · show tm.size = f.c.N
    rw [htm, fold_size]; exact htN
 refine iha (ctxSelf (f.head x).hpf βx Gi f.c.gl f.c.N) ⟨rfl, hnz⟩ rfl (Nat.zero_le _) (some f.L) (.inr hna) _ _ βx { tmps := tm, defers := [] } Gi _ hgoal S1 fun e rs1 β1 a1 G1 hK1 hs1 hb1 hg1 hext1 _ => ?_
 cases e with
 | exit i => exact hK1.elim
 | ret => exact hK1.elim
 | normal =>
  have S1a := hs1
  obtain ⟨A1, hrec1⟩ := A.run hs1.inv
  rw [hrec] at hrec1
  have hst1 := hs1.inv.step
  -- the record is busy
  refine ⟨_, run_beginRound hrec1 rfl, ?_⟩
  let rB : Loop := { recOf f.fn f.tmps f.ps f.asg f.b f.D .ready none with state := .busy }
  have S2 := hs1.lrec rB A1 hrec1
  have hst2 := rec_step (r' := rB) hrec1 A1.imo
  have hrecB : (G1.lrec f.L rB).w.heap[f.L]? = some (.loop rB) := World.putObj_heap_same A1.lt
  refine ihb (ctxSelf rs1.hpf β1 (G1.lrec f.L rB) f.c.gl f.c.N) ⟨rfl, fun h => by
   show G1.nz
   rw [hst1.nz]; exact hnz h⟩ rfl (Nat.zero_le _) (some f.L) (.inr hnb) rs1 _ β1 a1 (G1.lrec f.L rB) _ hK1 S2 fun e rs2 β2 a2 G2 hK2 hs2 hb2 hg2 hext2 _ => ?_
  obtain ⟨A2, hrec2⟩ := (A1.lrec (r' := rB)).run hs2.inv
  rw [hrecB] at hrec2
  have hst3 := hs2.inv.step
  -- the round's end
  obtain ⟨rE, hrE⟩ : ∃ rE : Loop, rE = recOf f.fn f.tmps f.ps f.asg f.b f.D (if (exCode e).isNone then .ready else .done) (exCode e) := ⟨_, rfl⟩
  have hend : (Instr.endRound f.L (exCode e)).run P G2.w = .ok (.bool (exCode e).isNone) (G2.lrec f.L rE).w := by
   rw [hrE]; exact run_endRound _ hrec2
  have hst4 := rec_step (r' := rE) hrec2 A2.imo
  have hrecE : (G2.lrec f.L rE).w.heap[f.L]? = some (.loop rE) := World.putObj_heap_same A2.lt
  -- the whole step
  have w1 : Step (f.E x βx).F (f.E x βx).Fo Gi G1 := (Step.refl _ _ Gi).trans hst1 (fun b o hf => .inl (.inr hf)) (fun b hf => .inl (.inr hf))
  have w2 : Step (f.E x βx).F (f.E x βx).Fo Gi (G1.lrec f.L rB) := w1.trans hst2 (fun b o hf => .inl (.inl hf)) (fun b hf => .inl (.inl hf))
  have own1 : ∀ b o, (∃ h v, β1 h = some v ∧ fpc (rs1.hpf h) v b o) → (f.E x βx).F b o ∨ Gi.w.heap.size ≤ b := fun b o ⟨h, v, hv, hf⟩ => (hs1.inv.own h v hv b o hf).imp .inr id
  have own1o : ∀ b, (∃ h v, β1 h = some v ∧ fpo (rs1.hpf h) v b) → (f.E x βx).Fo b ∨ Gi.w.heap.size ≤ b := fun b ⟨h, v, hv, hf⟩ => (hs1.inv.owno h v hv b hf).imp .inr id
  have w3 : Step (f.E x βx).F (f.E x βx).Fo Gi G2 := w2.trans hst3 own1 own1o
  have w4 : Step (f.E x βx).F (f.E x βx).Fo Gi (G2.lrec f.L rE) := w3.trans hst4 (fun b o hf => .inl (.inl hf)) (fun b hf => .inl (.inl hf))
  have hO : OldOK (G2.lrec f.L rE) := hs2.inv.heap.o.lrec hrec2 A2.imo
  -- whatever is owned in the end
  have fin : ∀ (hp' : Nat → HObj) (β' : Asg), HInv (ctxSelf rs1.hpf β1 (G1.lrec f.L rB) f.c.gl f.c.N) hp' β' G2 → f.β.le β' →
      (mkEater f.c.gl f.c.nz f.L rE f.G hp' β').J v (G2.lrec f.L rE) ∧
      (∀ b o, (mkEater f.c.gl f.c.nz f.L rE f.G hp' β').F b o → ((f.E x βx).F b o ∨ Gi.w.heap.size ≤ b) ∧ ¬ (G2.lrec f.L rE).im b o ∧ b < (G2.lrec f.L rE).w.heap.size) ∧
      (∀ b, (mkEater f.c.gl f.c.nz f.L rE f.G hp' β').Fo b → ((f.E x βx).Fo b ∨ Gi.w.heap.size ≤ b) ∧ ¬ (G2.lrec f.L rE).imo b ∧ b < (G2.lrec f.L rE).w.heap.size) := fun hp' β' H' hle' => by
   obtain ⟨A', _⟩ := (A1.lrec (r' := rB)).run H'
   have hsz : Gi.w.heap.size ≤ (G1.lrec f.L rB).w.heap.size := w2.size
   have J' := H'.heap.j.lrec (r' := rE) A' hrec2
   refine ⟨⟨hv, hrecE, A'.lrec, J', fun g t x hx => (H'.glob g t x hx).mono hst4.le, fun h => ?_, GW.leW_trans hsl w4.le.w⟩, fun b o hf => ?_, fun b hf => ?_⟩
   · rw [w4.nz]; exact hnz h
   · rcases hf with rfl | ⟨h, u, hu, hf⟩
     · exact ⟨.inl (.inl rfl), A'.im o, A'.lrec.lt⟩
     · refine ⟨?_, J'.im h u hu b o hf⟩
       rcases H'.own h u hu b o hf with k | k
       · exact own1 b o k
       · exact .inr (Nat.le_trans hsz k)
   · rcases hf with rfl | ⟨h, u, hu, hf⟩
     · exact ⟨.inl (.inl rfl), A'.imo, A'.lrec.lt⟩
     · refine ⟨?_, J'.imo h u hu b hf⟩
       rcases H'.owno h u hu b hf with k | k
       · exact own1o b k
       · exact .inr (Nat.le_trans hsz k)
  have hleF : f.β.le β2 := Asg.le_trans hle (Asg.le_trans hb1 hb2)
  have hheadx : ∀ n, n < f.rs.nx → n ∉ f.ns → (roundHead f.ts f.B f.ps.toList f.rs f.ns y ((), x)).hpf n = f.rs.hpf n := fun n hn hnn => head_hpf0 (ds := []) S0 hin hn hnn
  have hext := hext1.trans hext2
  have hnx : f.rs.nx ≤ (roundHead f.ts f.B f.ps.toList f.rs f.ns y ((), x)).nx := Nat.le_add_right _ _
  obtain ⟨_, _, _, _, _, _, _, _, fB0, e0, _⟩ := loopIn_spec hin
  have hB : ∀ n ∈ keysS f.B, n ∈ f.ns := fun n hn => by rw [e0]; exact List.mem_append_right _ ((locB_roots f.B _ _ _ _ _ fB0).2 n hn).1
  cases e with
  | normal =>
   rw [rfK] at hK2
   split at hK2
   · rename_i x' ns' ex' n' hin' hwr
     split at hK2
     · rename_i hwr'
       have hw := wrOK_spec' hwr
       have hw' := wrOK_spec' hwr'
       obtain ⟨β3, S3, hb3⟩ := loop_stateW S0 hin (withSl_sim hs2 f.tmps htN) hleF (GW.leW_trans hsl w3.le.w) ((withSl_in rs2 []).trans hin') (by
           have : (withSl [] rs2).nx = rs2.nx := by cases rs2; rfl
           rw [this]; exact Nat.le_trans hnx hext.nx) (fun n hn hnn => by
           have : (withSl [] rs2).hpf n = rs2.hpf n := by cases rs2; rfl
           rw [this, hext.hpf n (Nat.lt_of_lt_of_le hn hnx) (fun hm => (hw n hm).elim (fun h => hnn (hB n h)) (fun h => by omega))]
           exact hheadx n hn hnn) (fun n hn hlt => (hw' n hn).elim (hB n) (fun h => by omega)) [] (fun s _ => by rw [ha])
       obtain ⟨q1, q2, q3⟩ := fin _ β3 S3.inv hb3
       have hE : f.E x'.2 β3 = mkEater f.c.gl f.c.nz f.L rE f.G (loopHead [] f.B [] f.rs f.ns x').hpf β3 := by rw [hrE]; rfl
       refine ⟨.bool true, (G2.lrec f.L rE).w, hend, true, f.E x'.2 β3, G2.lrec f.L rE, rfl, rfl, w4, hO, ?_, ?_, ?_, ?_⟩
       · rw [hE]; exact q1
       · rw [hE]; exact q2
       · rw [hE]; exact q3
       · show if true = true then _ else _
         rw [if_pos rfl]
         refine ⟨x'.2, β3, hK2, ⟨⟨_, _, S3⟩, hb3, ?_⟩, rfl⟩
         refine ⟨fun n hn => List.mem_append_right _ (List.mem_append_right _ hn), fun n hn hnw => ?_, Nat.le_add_right _ _⟩
         have h2 : n ∉ f.ns := fun h => hnw (List.mem_append_right _ (List.mem_append_left _ (List.mem_append_right _ h)))
         exact head_hpf0 (ds := []) S0 hin hn h2
     · exact hK2.elim
   · exact hK2.elim
  | exit i =>
   obtain ⟨q1, q2, q3⟩ := fin _ β2 hs2.inv hleF
   have hE : f.EJ (.exit i) rs2 β2 = mkEater f.c.gl f.c.nz f.L rE f.G rs2.hpf β2 := by rw [hrE]; rfl
   refine ⟨.bool false, (G2.lrec f.L rE).w, hend, false, f.EJ (.exit i) rs2 β2, G2.lrec f.L rE, rfl, rfl, w4, hO, ?_, ?_, ?_, ?_⟩
   · rw [hE]; exact q1
   · rw [hE]; exact q2
   · rw [hE]; exact q3
   · show if false = true then _ else f.Done _
     rw [if_neg (by simp)]
     exact .inr ⟨.exit i, rs2, β2, by simp, hK2, ⟨_, _, _, hs2⟩, hleF, out_ext hext hheadx hnx, rfl⟩
  | ret =>
   obtain ⟨q1, q2, q3⟩ := fin _ β2 hs2.inv hleF
   have hE : f.EJ .ret rs2 β2 = mkEater f.c.gl f.c.nz f.L rE f.G rs2.hpf β2 := by rw [hrE]; rfl
   refine ⟨.bool false, (G2.lrec f.L rE).w, hend, false, f.EJ .ret rs2 β2, G2.lrec f.L rE, rfl, rfl, w4, hO, ?_, ?_, ?_, ?_⟩
   · rw [hE]; exact q1
   · rw [hE]; exact q2
   · rw [hE]; exact q3
   · show if false = true then _ else f.Done _
     rw [if_neg (by simp)]
     exact .inr ⟨.ret, rs2, β2, by simp, hK2, ⟨_, _, _, hs2⟩, hleF, out_ext hext hheadx hnx, rfl⟩
theorem rounds_ok (hround : ∀ y r x, f.inv (y :: r) x → f.round y r x) : ∀ (l : List (TDat f.ts)) (x : SDat (shB f.B)) (βx : Asg), f.inv l x → f.Ready x βx → eatsL P f.ts f.Done l (f.E x βx)
 | [], x, βx, hi, hR => .inl ⟨x, βx, hi, hR, rfl⟩
 | y :: r, x, βx, hi, hR => by
  have hb := round_bite iha ihb hna hnb hN S0 ha hin hps hR (hround y r x hi)
  intro v G vals hj ho hs
  obtain ⟨L, fn, tmps, asg, b, h1, h2, h3⟩ := hb v G vals hj ho hs
  refine ⟨L, fn, tmps, asg, b, h1, h2, h3.mono fun e w' hr => ?_⟩
  obtain ⟨q, E', G', k1, k2, k3, k4, k5, k6, k7, k8⟩ := hr
  refine ⟨q, E', G', k1, k2, k3, k4, k5, k6, k7, ?_⟩
  cases q with
  | true =>
   rw [if_pos rfl] at k8 ⊢
   obtain ⟨x', βx', hi', hR', rfl⟩ := k8
   exact rounds_ok hround r x' βx' hi' hR'
  | false =>
   rw [if_neg (by simp)] at k8 ⊢
   exact k8
end
end Go.Gv

/- A RANGE OVER A FUNCTION: the statement. -/
namespace Go.Gv
open Go
theorem canon_log {ts : List Ty} {caps : Sh} (x : SDat (.cons (.ob (.log ts)) caps)) (hn : nn caps = 0) (h : Nat) : canon (.cons (.ob (.log ts)) caps) x h = if h = 0 then .ob (.log ts) x.1 else .none := by
 have : intoH (fun k => k) caps x.2 1 [] = [] := by
  rw [intoH_eq]
  have := objsA_len (fun k => k) caps x.2 1
  rw [hn] at this
  rw [List.eq_nil_of_length_eq_zero this]; rfl
 show hset (fun _ => .none) ((0, .ob (.log ts) x.1) :: intoH (fun k => k) caps x.2 1 []) h = _
 rw [this]
 rfl
theorem log_inv {ts : List Ty} {caps : Sh} {x : SDat (.cons (.ob (.log ts)) caps)} (hn : nn caps = 0) {v : Value} {G : GW} {gl : Glob} {N : Nat} (O : OldOK G) (hj : x.1.2.1.J v G) (hF : ∀ b o, x.1.2.1.F b o → ¬ G.im b o ∧ b < G.w.heap.size) (hFo : ∀ b, x.1.2.1.Fo b → ¬ G.imo b ∧ b < G.w.heap.size)
    (hgl : ∀ g t y, gl g = some ⟨t, y⟩ → globOK t y G g) : HInv { G0 := G, F0 := x.1.2.1.F, Fo0 := x.1.2.1.Fo, glob := gl, N := N } (canon (.cons (.ob (.log ts)) caps) x) (fun n => if n = 0 then some v else none) G := by
 have hc := canon_log x hn
 have h0 : ∀ h u, (if h = 0 then some v else none) = some u → h = 0 ∧ u = v := fun h u e => by
  by_cases hh : h = 0
  · rw [if_pos hh] at e; cases e; exact ⟨hh, rfl⟩
  · rw [if_neg hh] at e; cases e
 refine ⟨⟨fun h e => ?_, fun h e => ?_, fun h u hu b o hf => ?_, fun h u hu b hf => ?_, fun h h' u u' hne hu hu' => ?_, fun h h' u u' hne hu hu' => ?_, O.old, O.oldo⟩, Step.refl _ _ _, fun h u hu b o hf => ?_, fun h u hu b hf => ?_, hgl⟩
 · rw [hc] at e
   by_cases hh : h = 0
   · rw [if_pos hh] at e; cases e
   · exact if_neg hh
 · rw [hc] at e ⊢
   by_cases hh : h = 0
   · subst hh; exact ⟨v, rfl, hj⟩
   · rw [if_neg hh] at e; exact (e rfl).elim
 · obtain ⟨rfl, rfl⟩ := h0 h u hu
   rw [hc, if_pos rfl] at hf
   exact hF b o hf
 · obtain ⟨rfl, rfl⟩ := h0 h u hu
   rw [hc, if_pos rfl] at hf
   exact hFo b hf
 · obtain ⟨rfl, rfl⟩ := h0 h u hu
   obtain ⟨rfl, rfl⟩ := h0 h' u' hu'
   exact (hne rfl).elim
 · obtain ⟨rfl, rfl⟩ := h0 h u hu
   obtain ⟨rfl, rfl⟩ := h0 h' u' hu'
   exact (hne rfl).elim
 · obtain ⟨rfl, rfl⟩ := h0 h u hu
   rw [hc, if_pos rfl] at hf
   exact .inl hf
 · obtain ⟨rfl, rfl⟩ := h0 h u hu
   rw [hc, if_pos rfl] at hf
   exact .inl hf
theorem Marks.add {m : Nat} {G G' : GW} {ds : List Deferred} (h : Marks m G ds) (O : OldOK G) (hm : m ≤ G.w.heap.size) (hg : G.le G') (hi : G'.imo G.w.heap.size) (hh : G'.w.heap[G.w.heap.size]? = some (.deferred (some []))) : Marks m G' ({ target := .collected G.w.heap.size, args := #[] } :: ds) := by
 obtain ⟨l, e, hn, h⟩ := h
 refine ⟨G.w.heap.size :: l, by rw [e]; rfl, List.nodup_cons.2 ⟨fun hm' => ?_, hn⟩, fun D hD => ?_⟩
 · obtain ⟨o, ho, _⟩ := O.oldo _ (h _ hm').2.1
   have := (Array.getElem?_eq_some_iff.1 ho).1
   omega
 · rcases List.mem_cons.1 hD with rfl | hD
   · exact ⟨hm, hi, hh⟩
   · exact ⟨(h D hD).1, (hg.2 D (h D hD).2.1).1, (hg.2 D (h D hD).2.1).2.trans (h D hD).2.2⟩
theorem rf_sound {P : Program} {c : Cf} (hL : LateOK P c) {g : Operand} {ps : Array Tmp} {asg b : Code} (iha : WpSound P c asg) (ihb : WpSound P c b) {C : Ctx} (hg : GlobIs C c) (hN : C.N = c.N) (hm : C.m ≤ C.G0.w.heap.size)
    {rs : RS} {K : Ex → RS → Prop} {β : Asg} {a : Act} {G : GW} {Q : Exit → Act → World → Prop} (h : wpA c (.rangeFunc g ps asg b) rs K) (S0 : Sim C rs β a G)
    (hQ : ∀ e rs' β' a' G', K e rs' → Sim C rs' β' a' G' → β.le β' → G.le G' → Ext rs rs' → (∀ s, a'.tmps.getD s undef = a.tmps.getD s undef) → Q (toExit e) a' G'.w) : (Code.rangeFunc g ps asg b).wpIn (WF none) 0 P Q a G.w := by
 simp only [wpA] at h
 split at h
 · rename_i fid caps hop
   split at h
   · rename_i l I Is hl hI
     split at h
     · rename_i z nxz hfa hps hna hnb
       obtain ⟨hpre, B, inv, h⟩ := h
       split at h
       · rename_i x0 ns ex0 n0 hin
         obtain ⟨hinv0, hround, hend⟩ := h
         refine wpIn_rangeFunc ?_
         intro fn _
         let f : RF := { c := c, ts := I.ts, B := B, ps := ps, asg := asg, b := b, rs := rs, ns := ns, β := β, G := G, tmps := a.tmps, fn := fn, D := G.w.heap.size, L := G.w.heap.size + 1, inv := inv, K := K }
         let rec0 : Loop := recOf fn a.tmps ps asg b G.w.heap.size .ready none
         let Ga : GW := G.alloc (.deferred (some [])) (fun _ => False) True
         let G1 : GW := Ga.alloc (.loop rec0) (fun _ => False) False
         have hsz1 : G1.w.heap.size = G.w.heap.size + 2 := by
          show ((G.w.alloc _).alloc _).heap.size = _
          rw [World.size_alloc, World.size_alloc]
         have hGasz : Ga.w.heap.size = G.w.heap.size + 1 := World.size_alloc _ _
         have hD1 : G1.w.heap[G.w.heap.size]? = some (.deferred (some [])) := by
          show ((G.w.alloc _).alloc _).heap[_]? = _
          rw [heap_alloc_lt _ _ _ (by rw [World.size_alloc]; omega)]
          exact World.alloc_heap_new _ _
         have hL1 : G1.w.heap[G.w.heap.size + 1]? = some (.loop rec0) := by
          have := World.alloc_heap_new Ga.w (.loop rec0)
          rw [hGasz] at this; exact this
         have up : ∀ {hp : Nat → HObj} {βx : Asg}, HInv C hp βx G → HInv C hp βx G1 := fun H => (H.alloc_im (.deferred (some [])) (fun _ => False) True (fun _ => .inr rfl)).alloc_im (.loop rec0) (fun _ => False) False (fun h => h.elim)
         have hle1 : G.le G1 := GW.le_trans (GW.alloc_step S0.inv.heap _ _ _).le (GW.alloc_step (S0.inv.alloc_im (.deferred (some [])) (fun _ => False) True (fun _ => .inr rfl)).heap _ _ _).le
         have hst01 : Step (fun _ _ => False) (fun _ => False) G G1 := (GW.alloc_step S0.inv.heap _ _ _).trans (GW.alloc_step (S0.inv.alloc_im (.deferred (some [])) (fun _ => False) True (fun _ => .inr rfl)).heap _ _ _) (fun _ _ h => h.elim) (fun _ h => h.elim)
         -- the consumer at the start
         obtain ⟨β1, S2, hb1⟩ := loop_state S0 hin (withSl_sim S0 a.tmps (S0.holds (fun _ => false)).size) (Asg.le_refl β) G.le_refl ((withSl_in rs []).trans hin) (by cases rs; exact Nat.le_refl _) (fun n _ _ => by cases rs; rfl) (fun _ h _ => h) [] (fun _ _ => rfl)
         have hready : ∀ {x : SDat (shB B)} {βx : Asg} {C' : Ctx} {G' : GW}, Sim C' (f.head x) βx { tmps := a.tmps, defers := [] } G' → β.le βx → f.Ready x βx := fun {x} {βx} {C'} {G'} S hb => by
          refine ⟨⟨_, _, S⟩, hb, ⟨fun n hn => List.mem_append_right _ (List.mem_append_right _ hn), fun n hn hnw => ?_, Nat.le_add_right _ _⟩⟩
          have h2 : n ∉ ns := fun h => hnw (List.mem_append_right _ (List.mem_append_left _ (List.mem_append_right _ h)))
          exact head_hpf0 (ds := []) S0 hin hn h2
         have hR0 : f.Ready x0.2 β1 := hready S2 hb1
         have heats : eatsL P f.ts f.Done (I.seq z) (f.E x0.2 β1) := rounds_ok (f := f) iha ihb hna hnb hN S0 rfl hin hps (fun y r x hi => by
          have := (hround y r x hi).out
          rw [forceRS_eq] at this
          exact this) (I.seq z) x0.2 β1 hinv0 hR0
         have H2 : HInv C (f.head x0.2).hpf β1 G1 := up S2.inv
         have A0 : Apart (f.head x0.2).hpf β1 G1 (G.w.heap.size + 1) := by
          refine ⟨fun o hi => ?_, fun hi => ?_, by omega, fun h v hv o hf => ?_, fun h v hv hf => ?_⟩
          · rcases hi with (hi | ⟨_, hi⟩) | ⟨_, hi⟩
            · have := S0.inv.heap.old _ _ hi; omega
            · exact hi
            · exact hi
          · rcases hi with (hi | ⟨hi, _⟩) | ⟨_, hi⟩
            · have := S0.inv.heap.oldo_lt hi; omega
            · omega
            · exact hi
          · have := (S2.inv.heap.im h v hv _ o hf).2; omega
          · have := (S2.inv.heap.imo h v hv _ hf).2; omega
         have hnz1 : c.nz = true → G1.nz := fun hn => by rw [H2.step.nz]; exact hg.nz hn
         have hJ0 : (f.E x0.2 β1).J (.func (.yield (G.w.heap.size + 1)) #[] #[]) G1 :=
          ⟨rfl, hL1, A0, H2.heap.j, fun g t x hx => H2.glob g t x (by rw [hg.eq]; exact hx), hnz1, hle1.w⟩
         have hEF : ∀ b o, (f.E x0.2 β1).F b o → ¬ G1.im b o ∧ b < G1.w.heap.size := fun b o hf => by
          rcases hf with rfl | ⟨h, v, hv, hf⟩
          · exact ⟨A0.im o, A0.lt⟩
          · exact H2.heap.im h v hv b o hf
         have hEFo : ∀ b, (f.E x0.2 β1).Fo b → ¬ G1.imo b ∧ b < G1.w.heap.size := fun b hf => by
          rcases hf with rfl | ⟨h, v, hv, hf⟩
          · exact ⟨A0.imo, A0.lt⟩
          · exact H2.heap.imo h v hv b hf
         -- the iterator
         obtain ⟨_, _, _, car, _, _, _, _, hnn, _, _⟩ := take_in S0.inv S0.fresh hfa
         have hn0 : nn I.caps = 0 := hnn.symm
         have hsg : sat (opA c.gl rs.slf [] g) β G (a.eval g) := opA_sat hg.eq (S0.holds (fun _ => false)) (fun e he => by cases he) g (fun _ _ => rfl)
         rw [hop] at hsg
         unfold sat at hsg
         obtain ⟨cv, hcv, hcs⟩ := hsg
         have hI' : I ∈ c.I fid := by rw [hI]; exact List.mem_cons_self
         obtain ⟨⟨⟨fnn, hfn, hbn, hnmn⟩, hcall⟩, hnoisy⟩ := hL.I fid I hI'
         have hargs : satT (intoA (fun k => k) I.caps z 1) (fun n => if n = 0 then some (.func (.yield (G.w.heap.size + 1)) #[] #[]) else none) G1 cv := by
          obtain ⟨_, _, c3, _⟩ := car.go (fun k => k) 1 (fun n => if n = 0 then some (.func (.yield (G.w.heap.size + 1)) #[] #[]) else none) (fun k h hk => by simp at hk)
          exact satT.mono _ (c3 cv (by rw [unlistA_spec hl]; exact hcs)) (Asg.le_refl _) hle1
         have hc := hcall ((I.seq z, f.E x0.2 β1, f.Done), z) hpre rfl heats { G0 := G1, F0 := (f.E x0.2 β1).F, Fo0 := (f.E x0.2 β1).Fo, glob := c.gl, N := c.N } _ G1 (.func (.yield (G.w.heap.size + 1)) #[] #[] :: cv) rfl (fun h => hnz1 (hnoisy h))
          (log_inv (x := ((I.seq z, f.E x0.2 β1, f.Done), z)) hn0 H2.heap.o hJ0 hEF hEFo (fun g t x hx => H2.glob g t x (by rw [hg.eq]; exact hx)))
          (by
           show satT (.cons (.ref 0) (intoA (fun k => k) I.caps z (0 + 1))) _ _ _
           unfold satT
           exact ⟨_, _, rfl, by unfold sat; exact ⟨rfl, rfl⟩, hargs⟩)
         refine ⟨G.w.heap.size + 1, [{ target := .collected G.w.heap.size, args := #[] }], G1.w, { target := .fn (.func fid) cv.toArray, args := #[.func (.yield (G.w.heap.size + 1)) #[] #[]] }, G1.w, fid, #[.func (.yield (G.w.heap.size + 1)) #[] #[]] ++ cv.toArray, G1.w,
          run_enterLoop_outer _ _ _ _ _, ?_, fun _ _ => trivial, ?_, fun h => (by cases h), ?_⟩
         · simp only [resolve, hcv]
           simp [go_sem]
         · have hnm' : fnn.name ≠ "runtime.NumGoroutine" := by simpa using hnmn
           have hb' : fnn.body ≠ none := by intro e; rw [e] at hbn; cases hbn
           simp [invoke, callFunc, hfn, hb', hnm']
         · have e : #[Value.func (.yield (G.w.heap.size + 1)) #[] #[]] ++ cv.toArray = (Value.func (.yield (G.w.heap.size + 1)) #[] #[] :: cv).toArray := by simp
           rw [e]
           refine CallsIn.mono (callsIn_wide.2 hc : CallsIn Fence.wide 0 P fid _ G1.w _) fun en w' hr => ?_
           cases en with
           | panicked _ => exact hr.elim
           | outgrown => exact hr.elim
           | returned v =>
            obtain ⟨hp', β2, G2, n, E', rfl, H3, lg, hob, hD⟩ := hr
            obtain ⟨u, hβ2, hj⟩ := H3.heap.sat n (by rw [hob]; simp)
            rw [hob] at hj
            have hj : E'.J u G2 := hj
            have hown : ∀ b o, E'.F b o → C.F0 b o ∨ C.G0.w.heap.size ≤ b := fun b o hf => by
             rcases H3.own n _ hβ2 b o (by rw [hob]; exact hf) with k | k
             · rcases k with rfl | ⟨h, v, hv, hf⟩
               · exact .inr (by show C.G0.w.heap.size ≤ G.w.heap.size + 1; have := S0.inv.step.size; omega)
               · exact H2.own h v hv b o hf
             · exact .inr (by have := S0.inv.step.size; have k : G1.w.heap.size ≤ b := k; omega)
            have howno : ∀ b, E'.Fo b → C.Fo0 b ∨ C.G0.w.heap.size ≤ b := fun b hf => by
             rcases H3.owno n _ hβ2 b (by rw [hob]; exact hf) with k | k
             · rcases k with rfl | ⟨h, v, hv, hf⟩
               · exact .inr (by show C.G0.w.heap.size ≤ G.w.heap.size + 1; have := S0.inv.step.size; omega)
               · exact H2.owno h v hv b hf
             · exact .inr (by have := S0.inv.step.size; have k : G1.w.heap.size ≤ b := k; omega)
            have hstC : Step C.F0 C.Fo0 C.G0 G2 := H2.step.trans H3.step (fun b o k => by
                rcases k with rfl | ⟨h, v, hv, hf⟩
                · exact .inr (by show C.G0.w.heap.size ≤ G.w.heap.size + 1; have := S0.inv.step.size; omega)
                · exact H2.own h v hv b o hf) (fun b k => by
                rcases k with rfl | ⟨h, v, hv, hf⟩
                · exact .inr (by show C.G0.w.heap.size ≤ G.w.heap.size + 1; have := S0.inv.step.size; omega)
                · exact H2.owno h v hv b hf)
            -- behind the statement
            have fin : ∀ (rs' : RS) (βx : Asg) (st : LoopState) (pe : Option Code) (e : Ex) (C' : Ctx) (a' : Act) (G' : GW), Sim C' rs' βx a' G' → β.le βx → E' = mkEater c.gl c.nz (G.w.heap.size + 1) (recOf fn a.tmps ps asg b G.w.heap.size st pe) G rs'.hpf βx →
                ∃ G4 : GW, (Instr.endLoop (G.w.heap.size + 1)).run P G2.w = (if st = .busy then (Instr.endLoop (G.w.heap.size + 1)).run P G2.w else .ok pe G4.w) ∧ G.le G4 ∧ Sim C (f.out rs') βx { a with defers := [{ target := .collected G.w.heap.size, args := #[] }] ++ a.defers } G4 := fun rs' βx st pe e C' a' G' S hb hE => by
             rw [hE] at hj
             obtain ⟨_, hrec, A, HJ, hgl, _, _⟩ := hj
             let rX : Loop := { recOf fn a.tmps ps asg b G.w.heap.size st pe with state := .exhausted }
             have hst4 := rec_step (r' := rX) hrec A.imo
             have hle4 : G.le (G2.lrec (G.w.heap.size + 1) rX) := GW.le_trans hle1 (GW.le_trans lg hst4.le)
             have H4 : HInv C rs'.hpf βx (G2.lrec (G.w.heap.size + 1) rX) :=
              ⟨(HJ.lrec A hrec).ok (H3.heap.o.lrec hrec A.imo), hstC.trans hst4 (fun b o k => .inr (by subst k; have := S0.inv.step.size; omega)) (fun b k => .inr (by subst k; have := S0.inv.step.size; omega)),
               fun h v hv b o hf => hown b o (by rw [hE]; exact .inr ⟨h, v, hv, hf⟩), fun h v hv b hf => howno b (by rw [hE]; exact .inr ⟨h, v, hv, hf⟩),
               fun g t x hx => (hgl g t x (by rw [← hg.eq]; exact hx)).mono hst4.le⟩
             refine ⟨G2.lrec (G.w.heap.size + 1) rX, ?_, hle4, ?_⟩
             · split
               · rfl
               · rename_i hb'
                 exact run_endLoop hrec hb'
             · have hsl : ∀ s, (f.out rs').slf s = rs.slf s := fun s => by cases rs'; rfl
               have hhp : (f.out rs').hpf = rs'.hpf := by cases rs'; rfl
               have hnx : (f.out rs').nx = rs'.nx := by cases rs'; rfl
               refine ⟨fun γ => ⟨fun s => ?_, (S0.holds γ).size, ?_, ?_⟩, fun s => by rw [hsl]; exact S0.flat s, fun n hn => ?_, ?_, ?_, ?_⟩
               · show satP γ ((f.out rs').slf s) βx _ _
                 rw [hsl]
                 exact ((S0.holds γ).slots s).mono hb hle4
               · refine Marks.add (S0.holds γ).defers S0.inv.heap.o (Nat.le_trans hm S0.inv.step.size) hle4 ?_ ?_
                 · exact (hst4.le.2 _ (lg.2 _ (.inl (.inr ⟨rfl, trivial⟩))).1).1
                 · have k1 := lg.2 G.w.heap.size (.inl (.inr ⟨rfl, trivial⟩))
                   exact ((hst4.le.2 _ k1.1).2.trans k1.2).trans hD1
               · show HInv C (f.out rs').hpf βx _
                 rw [hhp]; exact H4
               · rw [hhp]; exact S.fresh n (by rw [← hnx]; exact hn)
               · have := S.gd; cases rs'; exact this
               · have := S.vc; cases rs'; exact this
               · have := S.tr; cases rs'; exact this
            rcases hD with ⟨x, βx, hix, hRx, hE⟩ | ⟨e, rs', βx, hne, hK, ⟨C', a', G', S⟩, hbx, hext, hE⟩
            · obtain ⟨⟨C', G', S⟩, hbx, hext⟩ := hRx
              obtain ⟨G4, hrun, hle4, S4⟩ := fin (f.head x) βx .ready none .normal C' _ G' S hbx hE
              refine ⟨none, G4.w, by rw [hrun]; rfl, ?_⟩
              have hout : f.out (f.head x) = addWr (keysS B ++ ns ++ rs.wr) (f.head x) := by
               have : withSl rs.sl (f.head x) = f.head x := by
                have := head_sl (B := B) (rs := rs) (ns := ns) (x := ((), x))
                show withSl rs.sl (loopHead [] B [] rs ns ((), x)) = loopHead [] B [] rs ns ((), x)
                rw [← this]; rfl
               show addWr (keysS B ++ ns ++ rs.wr) (withSl rs.sl (f.head x)) = _
               rw [this]
              have hK := (hend x hix).out
              rw [forceRS_eq] at hK
              rw [hout] at S4
              exact hQ .normal _ βx _ G4 hK S4 hbx hle4 hext (fun _ => rfl)
            · cases e with
              | normal => exact (hne rfl).elim
              | exit id =>
               obtain ⟨G4, hrun, hle4, S4⟩ := fin rs' βx .done (some (.exit id)) (.exit id) C' a' G' S hbx hE
               exact ⟨some (.exit id), G4.w, by rw [hrun]; rfl, wpIn_exit (hQ (.exit id) _ βx _ G4 hK S4 hbx hle4 hext (fun _ => rfl))⟩
              | ret =>
               obtain ⟨G4, hrun, hle4, S4⟩ := fin rs' βx .done (some .ret) .ret C' a' G' S hbx hE
               exact ⟨some .ret, G4.w, by rw [hrun]; rfl, wpIn_ret (hQ .ret _ βx _ G4 hK S4 hbx hle4 hext (fun _ => rfl))⟩
       · exact h.elim
     · exact h.elim
   · exact h.elim
 · exact h.elim
end Go.Gv

/- A BODY: what the generator asks for is enough. -/
namespace Go.Gv
open Go
theorem wp_loop_x {P : Program} {F : Fence} {n : Nat} {Q : Exit → Act → World → Prop} {c : Code} {X : Type} (I : X → Act → World → Prop) (μ : X → Nat) {a : Act} {w : World} {x0 : X} (h0 : I x0 a w)
    (round : ∀ x a w, I x a w → c.wpIn F n P (Exit.then (fun a' w' => ∃ x', I x' a' w' ∧ μ x' < μ x) Q) a w) : (Code.loop c).wpIn F n P Q a w := by
 intro b k cs hro hb hr
 have key : ∀ j x a w, μ x = j → I x a w → ∃ e a' w', Q e a' w' ∧ ArrivesIn (Machine.fenced P F) P (lone (b.atR a (.code c :: .inLoop c :: k)) cs w) b k cs e a' w' := by
  intro j
  induction j using Nat.strongRecOn with
  | _ j ih =>
   intro x a w hn hI
   obtain ⟨e, a₁, w₁, hq, harr⟩ := round x a w hI b (.inLoop c :: k) cs hro hb hr
   cases e with
   | normal =>
    obtain ⟨x', hI₁, hlt⟩ := hq
    obtain ⟨e₂, a₂, w₂, hq₂, harr₂⟩ := ih (μ x') (hn ▸ hlt) x' a₁ w₁ rfl hI₁
    exact ⟨e₂, a₂, w₂, hq₂, .of_steps (StepsIn.trans harr (.one (fenced_calm hb hr rfl) stepR_inLoop)) harr₂⟩
   | exit id => exact ⟨_, a₁, w₁, hq, .pass (x := .inLoop c) rfl (fun _ _ => .inl (by simp)) harr⟩
   | goto l => exact ⟨_, a₁, w₁, hq, .pass (x := .inLoop c) rfl (fun _ _ => .inl (by simp)) harr⟩
   | ret => exact ⟨_, a₁, w₁, hq, .pass (x := .inLoop c) rfl (fun _ _ => .inl (by simp)) harr⟩
   | panic ch => exact ⟨_, a₁, w₁, hq, .pass (x := .inLoop c) rfl (fun _ _ => .inl (by simp)) harr⟩
   | outgrown => exact ⟨_, a₁, w₁, hq, .pass (x := .inLoop c) rfl (fun _ _ => .inl (by simp)) harr⟩
 obtain ⟨e, a', w', hq, harr⟩ := key _ x0 a w rfl h0
 exact ⟨e, a', w', hq, .of_steps (.one (fenced_calm hb hr rfl) stepR_loop) harr⟩
theorem dstsO_mem : ∀ (L : List Oper) (l : List Nat) (s : Nat), s ∈ dstsO L l ↔ (∃ o ∈ L, o.dst = some s) ∨ s ∈ l
 | [], l, s => by simp [dstsO]
 | o :: r, l, s => by
  unfold dstsO
  rw [dstsO_mem r]
  cases hd : o.dst with
  | none =>
   constructor
   · rintro (⟨o', h1, h2⟩ | h)
     · exact .inl ⟨o', List.mem_cons_of_mem _ h1, h2⟩
     · exact .inr h
   · rintro (⟨o', h1, h2⟩ | h)
     · rcases List.mem_cons.1 h1 with rfl | h1
       · rw [hd] at h2; cases h2
       · exact .inl ⟨o', h1, h2⟩
     · exact .inr h
  | some d =>
   constructor
   · rintro (⟨o', h1, h2⟩ | h)
     · exact .inl ⟨o', List.mem_cons_of_mem _ h1, h2⟩
     · rcases List.mem_cons.1 h with rfl | h
       · exact .inl ⟨o, List.mem_cons_self, hd⟩
       · exact .inr h
   · rintro (⟨o', h1, h2⟩ | h)
     · rcases List.mem_cons.1 h1 with rfl | h1
       · rw [hd] at h2; cases h2; exact .inr List.mem_cons_self
       · exact .inl ⟨o', h1, h2⟩
     · exact .inr (List.mem_cons_of_mem _ h)
theorem dsts_mem (c : Code) : ∀ (l : List Nat) (s : Nat), s ∈ dsts c l ↔ s ∈ dsts c [] ∨ s ∈ l := by
 induction c with
 | region id ops d => intro l s; simp only [dsts]; rw [dstsO_mem, dstsO_mem]; simp
 | seq a b iha ihb => intro l s; simp only [dsts]; rw [iha, ihb, iha (dsts b [])]; constructor
                      · rintro (h | h | h)
                        · exact .inl (.inl h)
                        · exact .inl (.inr h)
                        · exact .inr h
                      · rintro ((h | h) | h)
                        · exact .inl h
                        · exact .inr (.inl h)
                        · exact .inr (.inr h)
 | cond x a b iha ihb => intro l s; simp only [dsts]; rw [iha, ihb, iha (dsts b [])]; constructor
                         · rintro (h | h | h)
                           · exact .inl (.inl h)
                           · exact .inl (.inr h)
                           · exact .inr h
                         · rintro ((h | h) | h)
                           · exact .inl h
                           · exact .inr (.inl h)
                           · exact .inr (.inr h)
 | block id b ih => intro l s; simp only [dsts]; exact ih l s
 | loop b ih => intro l s; simp only [dsts]; exact ih l s
 | scope b ih => intro l s; simp only [dsts]; exact ih l s
 | _ => intro l s; simp [dsts]
theorem wrOK_spec {B : List Nat} {nx : Nat} : ∀ {l : List Nat}, wrOK B nx l = true → ∀ h ∈ l, h ∈ B ∨ nx ≤ h
 | [], _, h, hm => by cases hm
 | a :: r, hw, h, hm => by
  unfold wrOK at hw
  have hr : (a ∈ B ∨ nx ≤ a) ∧ wrOK B nx r = true := by
   split at hw
   · cases hw
   · rename_i hne
     refine ⟨?_, hw⟩
     cases h1 : memN B a with
     | true => exact .inl (memN_iff.1 h1)
     | false =>
      cases h2 : Nat.ble nx a with
      | true => exact .inr (Nat.le_of_ble_eq_true h2)
      | false => exact (hne h1 h2).elim
  rcases List.mem_cons.1 hm with rfl | hm
  · exact hr.1
  · exact wrOK_spec hr.2 h hm
theorem noRF_seq {a b : Code} (h : noRF (.seq a b) = true) : noRF a = true ∧ noRF b = true := by
 unfold noRF at h
 split at h
 · rename_i ha; exact ⟨ha, h⟩
 · cases h
theorem noRF_cond {x : Operand} {a b : Code} (h : noRF (.cond x a b) = true) : noRF a = true ∧ noRF b = true := by
 unfold noRF at h
 split at h
 · rename_i ha; exact ⟨ha, h⟩
 · cases h
theorem addWr_sim {C : Ctx} {rs : RS} {l : List Nat} {β : Asg} {a : Act} {G : GW} (h : Sim C rs β a G) : Sim C (addWr l rs) β a G := by
 cases rs; exact ⟨h.holds, h.flat, h.fresh, h.gd, h.vc, h.tr⟩
theorem restO_none {o : HObj} : restO o = .none ↔ o = .none := by
 unfold restO
 split
 · exact ⟨(fun h => by cases h), (fun h => by cases h)⟩
 · exact Iff.rfl
theorem restO_not {o : HObj} (h : wkB o = false) : restO o = o := by
 unfold restO
 split
 · cases h
 · rfl
theorem restO_sat {o : HObj} {v : Value} {β : Asg} {G : GW} (h : satH o v β G) : satH (restO o) v β G := by
 unfold restO
 split
 · rename_i k w m left x q r
   obtain ⟨b, es, c, seen, rfl, hbr, h1, h2, h3, h4, h5, h6⟩ := h
   exact ⟨b, es, c, rfl, h1, h2, h3⟩
 · exact h
theorem restO_fpc {o : HObj} {v : Value} {b i : Nat} (h : fpc (restO o) v b i) : fpc o v b i := by
 unfold restO at h
 split at h
 · cases h
 · exact h
theorem restO_fpo {o : HObj} {v : Value} {b : Nat} (h : fpo (restO o) v b) : fpo o v b := by
 unfold restO at h
 split at h
 · cases v <;> first | exact h.elim | skip
   rename_i r
   cases r with
   | none => exact h.elim
   | some a => exact .inl h
 · exact h
theorem restL_look : ∀ (l : List (Nat × HObj)) (n : Nat), (RS.hpf ⟨[], restL l, 0, [], [], [], []⟩ n) = restO (RS.hpf ⟨[], l, 0, [], [], [], []⟩ n)
 | [], n => rfl
 | (h, o) :: r, n => by
  have ih := restL_look r n
  unfold RS.hpf at ih ⊢
  dsimp only at ih ⊢
  rw [restL, lookN_cons, lookN_cons]
  by_cases e : n = h
  · rw [if_pos e, if_pos e]
  · rw [if_neg e, if_neg e]; exact ih
theorem restN_not : ∀ (l : List (Nat × HObj)) (n : Nat), n ∉ restN l → restO (RS.hpf ⟨[], l, 0, [], [], [], []⟩ n) = RS.hpf ⟨[], l, 0, [], [], [], []⟩ n
 | [], n, _ => rfl
 | (h, o) :: r, n, hn => by
  have ih := restN_not r n
  unfold RS.hpf at ih ⊢
  dsimp only at ih ⊢
  rw [lookN_cons]
  cases hb : wkB o with
  | true =>
   have hr : restN ((h, o) :: r) = h :: restN r := by simp only [restN, hb]
   rw [hr] at hn
   have e : ¬ n = h := fun e => hn (e ▸ List.mem_cons_self)
   rw [if_neg e]
   exact ih fun hm => hn (List.mem_cons_of_mem _ hm)
  | false =>
   have hr : restN ((h, o) :: r) = restN r := by simp only [restN, hb]
   rw [hr] at hn
   by_cases e : n = h
   · rw [if_pos e]
     exact restO_not hb
   · rw [if_neg e]
     exact ih hn
theorem HInv.rest {C : Ctx} {hp hp' : Nat → HObj} {β : Asg} {G : GW} (H : HInv C hp β G) (he : ∀ n, hp' n = restO (hp n)) : HInv C hp' β G := {
 heap := {
  no := fun h hn => H.heap.no h (restO_none.1 (by rw [← he]; exact hn))
  sat := fun h hn => by
   obtain ⟨v, hv, hs⟩ := H.heap.sat h (fun e => hn (by rw [he]; exact restO_none.2 e))
   exact ⟨v, hv, by rw [he]; exact restO_sat hs⟩
  im := fun h v hv b o hf => H.heap.im h v hv b o (restO_fpc (by rw [he] at hf; exact hf))
  imo := fun h v hv b hf => H.heap.imo h v hv b (restO_fpo (by rw [he] at hf; exact hf))
  dis := fun h h' v v' hne hv hv' b o hf hf' => H.heap.dis h h' v v' hne hv hv' b o (restO_fpc (by rw [he] at hf; exact hf)) (restO_fpc (by rw [he] at hf'; exact hf'))
  diso := fun h h' v v' hne hv hv' b hf hf' => H.heap.diso h h' v v' hne hv hv' b (restO_fpo (by rw [he] at hf; exact hf)) (restO_fpo (by rw [he] at hf'; exact hf'))
  old := H.heap.old
  oldo := H.heap.oldo }
 step := H.step
 own := fun h v hv b i hf => H.own h v hv b i (restO_fpc (by rw [he] at hf; exact hf))
 owno := fun h v hv b hf => H.owno h v hv b (restO_fpo (by rw [he] at hf; exact hf))
 glob := H.glob }
theorem restK_spec {y : Bool} {K : RS → Prop} {rs : RS} (h : restK y K rs) {C : Ctx} {β : Asg} {a : Act} {G : GW} (hs : Sim C rs β a G) : ∃ rs', K rs' ∧ Sim C rs' β a G ∧ Ext rs rs' := by
 obtain ⟨sl, hp, nx, gd, vc, tr, wr⟩ := rs
 have key : K ⟨sl, hp, nx, gd, vc, tr, wr⟩ ∨ K ⟨sl, restL hp, nx, gd, vc, tr, restN hp ++ wr⟩ := by
  cases y with
  | false => exact .inl h
  | true =>
   cases hw : wkN hp with
   | none => simp only [restK, hw] at h; exact .inl h
   | some m => simp only [restK, hw, forceH_eq] at h; exact .inr h
 rcases key with h | h
 · exact ⟨_, h, hs, Ext.refl _⟩
 · have hl : ∀ n, (RS.hpf ⟨sl, restL hp, nx, gd, vc, tr, restN hp ++ wr⟩ n) = restO (RS.hpf ⟨sl, hp, nx, gd, vc, tr, wr⟩ n) := fun n => restL_look hp n
   refine ⟨_, h, ⟨fun γ => ?_, hs.flat, fun n hn => by rw [hl, hs.fresh n hn]; rfl, hs.gd, hs.vc, hs.tr⟩, ⟨fun n hn => List.mem_append_right _ hn, fun n _ hn => ?_, Nat.le_refl _⟩⟩
   · have hh := hs.holds γ
     exact ⟨hh.slots, hh.size, hh.defers, hh.inv.rest hl⟩
   · rw [hl]
     exact restN_not hp n fun hm => hn (List.mem_append_left _ hm)
section
variable {P : Program} {c : Cf} (hE : c.E.ok P = true) (hS : SpecsOK P c.gl c.F c.nz) (hL : LateOK P c) (hmix : P.follows .mixedOrders = true)
include hE hS hL hmix
theorem wpA_sound : ∀ (code : Code), WpSound P c code := by
 intro code
 induction code with
 | skip => exact fun C hg hN hm r hr rs K β a G Q h hs hQ => wpIn_skip (hQ .normal rs β a G h hs (Asg.le_refl β) G.le_refl (Ext.refl rs) (fun _ _ => rfl))
 | region id ops draw =>
  intro C hg hN hm r hr rs K β a G Q h hs hQ
  refine region_wp hE hS hL hmix hg hN h hs fun rs' β' a' G' hK hs' hb hgl hext hsm => hQ .normal rs' β' a' G' hK hs' hb hgl hext fun s hsn => hsm s fun o ho hd => hsn ?_
  simp only [dsts]
  exact (dstsO_mem _ _ _).2 (.inl ⟨o, ho, hd⟩)
 | seq x y ihx ihy =>
  intro C hg hN hm r hr rs K β a G Q h hs hQ
  have hd : ∀ s, s ∉ dsts (x.seq y) [] → s ∉ dsts x [] ∧ s ∉ dsts y [] := fun s hn => by
   simp only [dsts] at hn
   rw [dsts_mem] at hn
   exact ⟨fun h => hn (.inl h), fun h => hn (.inr h)⟩
  refine wpIn_seq (ihx C hg hN hm r (hr.imp _root_.id fun h => (noRF_seq h).1) rs _ β a G _ h hs fun e rs' β' a' G' hK hs' hb hgl hext hsm => ?_)
  cases e with
  | normal =>
   exact ihy C hg hN hm r (hr.imp _root_.id fun h => (noRF_seq h).2) rs' K β' a' G' Q hK hs' fun e' rs'' β'' a'' G'' hK' hs'' hb' hgl' hext' hsm' =>
    hQ e' rs'' β'' a'' G'' hK' hs'' (Asg.le_trans hb hb') (GW.le_trans hgl hgl') (hext.trans hext') fun s hn => (hsm' s (hd s hn).2).trans (hsm s (hd s hn).1)
  | exit i => exact hQ (.exit i) rs' β' a' G' hK hs' hb hgl hext fun s hn => hsm s (hd s hn).1
  | ret => exact hQ .ret rs' β' a' G' hK hs' hb hgl hext fun s hn => hsm s (hd s hn).1
 | cond x t e iht ihe =>
  intro C hg hN hm r hr rs K β a G Q h hs hQ
  have hd : ∀ s, s ∉ dsts (Code.cond x t e) [] → s ∉ dsts t [] ∧ s ∉ dsts e [] := fun s hn => by
   simp only [dsts] at hn
   rw [dsts_mem] at hn
   exact ⟨fun h => hn (.inl h), fun h => hn (.inr h)⟩
  have hx : sat (opA c.gl rs.slf [] x) β G (a.eval x) := opA_sat hg.eq (hs.holds (fun _ => false)) (fun e he => by cases he) x (fun _ _ => rfl)
  have ht : wpA c t rs K → t.wpIn (WF r) 0 P Q a G.w := fun h => iht C hg hN hm r (hr.imp _root_.id fun h => (noRF_cond h).1) rs K β a G Q h hs fun e rs' β' a' G' hK hs' hb hgl hext hsm => hQ e rs' β' a' G' hK hs' hb hgl hext fun s hn => hsm s (hd s hn).1
  have he : wpA c e rs K → e.wpIn (WF r) 0 P Q a G.w := fun h => ihe C hg hN hm r (hr.imp _root_.id fun h => (noRF_cond h).2) rs K β a G Q h hs fun e rs' β' a' G' hK hs' hb hgl hext hsm => hQ e rs' β' a' G' hK hs' hb hgl hext fun s hn => hsm s (hd s hn).2
  simp only [wpA] at h
  split at h
  · rename_i heq
    rw [heq] at hx; unfold sat at hx
    exact wpIn_cond_true hx (ht h)
  · rename_i heq
    rw [heq] at hx; unfold sat at hx
    exact wpIn_cond_false hx (he h)
  · split at h
    · rename_i p hp
      obtain ⟨b, hb, hiff⟩ := prop_val (propOf_sat hp hx)
      refine wpIn_cond_split hb (fun h1 => ht (h.1 (hiff.1 h1)).out) (fun h1 => he (h.2 fun hpp => ?_).out)
      rw [hiff.2 hpp] at h1; cases h1
    · exact h.elim
 | block id b ih =>
  intro C hg hN hm r hr rs K β a G Q h hs hQ
  refine wpIn_block (ih C hg hN hm r (hr.imp _root_.id fun h => (by simpa only [noRF] using h)) rs _ β a G _ h hs fun e rs' β' a' G' hK hs' hb hgl hext hsm => ?_)
  have hsm' : ∀ s, s ∉ dsts (Code.block id b) [] → a'.tmps.getD s undef = a.tmps.getD s undef := fun s hn => hsm s (by simpa only [dsts] using hn)
  cases e with
  | normal => exact hQ .normal rs' β' a' G' hK hs' hb hgl hext hsm'
  | ret => exact hQ .ret rs' β' a' G' hK hs' hb hgl hext hsm'
  | exit i =>
   show (if i = id then Q .normal a' G'.w else Q (.exit i) a' G'.w)
   dsimp only at hK
   split at hK
   · rename_i hbq
     rw [if_pos (Nat.eq_of_beq_eq_true hbq)]
     obtain ⟨rs2, hK2, hs2, hx2⟩ := restK_spec hK hs'
     exact hQ .normal rs2 β' a' G' hK2 hs2 hb hgl (hext.trans hx2) hsm'
   · rename_i hbq
     rw [if_neg (fun e => by subst e; simp at hbq)]
     exact hQ (.exit i) rs' β' a' G' hK hs' hb hgl hext hsm'
 | loop b ih =>
  intro C hg hN hm r hr rs K β a G Q h hs hQ
  simp only [wpA] at h
  obtain ⟨S, B, inv, μ, h⟩ := h
  split at h
  · rename_i x0 ns0 ex0 n0 hin
    obtain ⟨hinv0, hround⟩ := h
    obtain ⟨_, _, _, _, _, _, _, _, fB0, e0, _⟩ := loopIn_spec hin
    obtain ⟨_, k2⟩ := locB_roots B _ _ _ _ _ fB0
    have hB : ∀ n ∈ keysS B, n ∈ ns0 := fun n hn => by rw [e0]; exact List.mem_append_right _ (k2 n hn).1
    obtain ⟨β1, S1, hb1⟩ := loop_state hs hin hs (Asg.le_refl β) G.le_refl hin (Nat.le_refl _) (fun _ _ _ => rfl) (fun _ h _ => h) (dsts b []) (fun _ _ => rfl)
    refine wp_loop_x (fun x a' w' => inv x ∧ ∃ β' G', G'.w = w' ∧ Sim C (loopHead S B (dsts b []) rs ns0 x) β' a' G' ∧ β.le β' ∧ G.le G' ∧ ∀ s, s ∉ dsts b [] → a'.tmps.getD s undef = a.tmps.getD s undef) μ (x0 := x0) ⟨hinv0, β1, G, rfl, S1, hb1, G.le_refl, fun _ _ => rfl⟩ ?_
    rintro x a2 w2 ⟨hinv, β2, G2, rfl, S2, hb2, hg2, hsm2⟩
    have hheadhp : ∀ n, n < rs.nx → n ∉ ns0 → (loopHead S B (dsts b []) rs ns0 x).hpf n = rs.hpf n := fun n hn hnn => head_hpf hs hin hn hnn
    refine ih C hg hN hm r (hr.imp _root_.id fun h => (by simpa only [noRF] using h)) _ _ β2 a2 G2 _ (by have := (hround x hinv).out; rw [forceRS_eq] at this; exact this) S2 fun e rs' β' a' G' hK hs' hb hgl hext hsm => ?_
    have hnxle : rs.nx ≤ rs'.nx := Nat.le_trans (Nat.le_add_right _ _) hext.nx
    cases e with
    | normal =>
     dsimp only at hK
     split at hK
     · rename_i x' ns' ex' n' hin' hwr
       split at hK
       · rename_i hwr'
         obtain ⟨hinv', hμ⟩ := hK
         have hw := wrOK_spec hwr
         have hw' := wrOK_spec hwr'
         have hsm3 : ∀ s, s ∉ dsts b [] → a'.tmps.getD s undef = a.tmps.getD s undef := fun s hn => (hsm s hn).trans (hsm2 s hn)
         obtain ⟨β3, S3, hb3⟩ := loop_state hs hin hs' (Asg.le_trans hb2 hb) (GW.le_trans hg2 hgl) hin' hnxle (fun n hn hnn => by
             rw [hext.hpf n (Nat.lt_of_lt_of_le hn (Nat.le_add_right _ _)) (fun hm => (hw n hm).elim (fun h => hnn (hB n h)) (fun h => by omega))]
             exact hheadhp n hn hnn) (fun n hn hlt => (hw' n hn).elim (hB n) (fun h => by omega)) (dsts b []) hsm3
         exact ⟨x', ⟨hinv', β3, G', rfl, S3, hb3, GW.le_trans hg2 hgl, hsm3⟩, hμ⟩
       · exact hK.elim
     · exact hK.elim
    | exit i =>
     refine hQ (.exit i) _ β' a' G' hK (addWr_sim hs') (Asg.le_trans hb2 hb) (GW.le_trans hg2 hgl) (exit_ext hext hnxle hB hheadhp (Nat.le_add_right _ _)) fun s hn => ?_
     have hn' : s ∉ dsts b [] := by simpa only [dsts] using hn
     exact (hsm s hn').trans (hsm2 s hn')
    | ret =>
     refine hQ .ret _ β' a' G' hK (addWr_sim hs') (Asg.le_trans hb2 hb) (GW.le_trans hg2 hgl) (exit_ext hext hnxle hB hheadhp (Nat.le_add_right _ _)) fun s hn => ?_
     have hn' : s ∉ dsts b [] := by simpa only [dsts] using hn
     exact (hsm s hn').trans (hsm2 s hn')
  · exact h.elim
 | exit id => exact fun C hg hN hm r hr rs K β a G Q h hs hQ => wpIn_exit (hQ (.exit id) rs β a G h hs (Asg.le_refl β) G.le_refl (Ext.refl rs) (fun _ _ => rfl))
 | ret => exact fun C hg hN hm r hr rs K β a G Q h hs hQ => wpIn_ret (hQ .ret rs β a G h hs (Asg.le_refl β) G.le_refl (Ext.refl rs) (fun _ _ => rfl))
 | label l => exact fun C hg hN hm r hr rs K β a G Q h hs hQ => wpIn_label (hQ .normal rs β a G h hs (Asg.le_refl β) G.le_refl (Ext.refl rs) (fun _ _ => rfl))
 | rangeFunc g ps asg b iha ihb =>
  intro C hg hN hm r hr rs K β a G Q h hs hQ
  rcases hr with rfl | hr
  · exact rf_sound hL iha ihb hg hN hm h hs fun e rs' β' a' G' hK hs' hb hgl hext hsm => hQ e rs' β' a' G' hK hs' hb hgl hext (fun s _ => hsm s)
  · simp [noRF] at hr
 | _ => intro C hg hN hm r hr rs K β a G Q h hs hQ; simp only [wpA] at h
where
 exit_ext {rs hd rs' : RS} {ns B : List Nat} (hext : Ext hd rs') (hnx : rs.nx ≤ rs'.nx) (hB : ∀ n ∈ B, n ∈ ns) (hh : ∀ n, n < rs.nx → n ∉ ns → hd.hpf n = rs.hpf n) (hle : rs.nx ≤ hd.nx) : Ext rs (addWr (B ++ ns ++ rs.wr) rs') := by
  cases rs' with
  | mk sl hp nx gd vc tr wr =>
   refine ⟨fun n hn => List.mem_append_right _ (List.mem_append_right _ hn), fun n hn hnw => ?_, hnx⟩
   have h1 : n ∉ wr := fun h => hnw (List.mem_append_left _ h)
   have h2 : n ∉ ns := fun h => hnw (List.mem_append_right _ (List.mem_append_left _ (List.mem_append_right _ h)))
   exact (hext.hpf n (Nat.lt_of_lt_of_le hn hle) h1).trans (hh n hn h2)
 head_hpf {C : Ctx} {rs : RS} {β : Asg} {a : Act} {G : GW} (hs : Sim C rs β a G) {S B : List (Nat × Sh)} {x0 : SDat (shL S B)} {ns0 : List Nat} {ex0 : List (Nat × HObj)} {n0 : Nat} (hin : loopIn S B rs = some ⟨x0, ns0, ex0, n0⟩) {x : SDat (shL S B)} {ds : List Nat} {n : Nat} (hn : n < rs.nx) (hnn : n ∉ ns0) :
     (loopHead S B ds rs ns0 x).hpf n = rs.hpf n := by
  obtain ⟨f0, _, _, _, _, _, _, _, fB0, e0, _⟩ := loopIn_spec hin
  rw [hpf_hset]
  show hset (fun _ => HObj.none) (intoH (nmL (rootsL S B) rs.nx) (shL S B) x 0 (deadL (ltN rs.nx ns0) rs.hp)) n = _
  rw [intoH_eq]
  rcases hset_zipN_cases (nmL (rootsL S B) rs.nx) (fun _ => HObj.none) (objsA (nmL (rootsL S B) rs.nx) (shL S B) x 0) 0 (deadL (ltN rs.nx ns0) rs.hp) n with ⟨k, o, h1, h2, h3⟩ | ⟨h1, h2⟩
  · exfalso
    rw [Nat.zero_add] at h2
    by_cases hr : ∃ y, (rootsL S B)[k]? = some (some y)
    · obtain ⟨y, hr⟩ := hr
      rw [nmL_root hr] at h2
      subst h2
      obtain ⟨k1, _⟩ := locB_roots B _ _ _ _ _ fB0
      unfold rootsL at hr
      by_cases hlt : k < nn (shS S)
      · rw [List.getElem?_append_left (by simpa using hlt), List.getElem?_replicate, if_pos hlt] at hr; cases hr
      · rw [List.getElem?_append_right (by simp; omega), List.length_replicate] at hr
        exact hnn (by rw [e0]; exact List.mem_append_right _ (List.mem_of_getElem? (k1 _ _ hr).1))
    · rw [nmL_new (fun y e => hr ⟨y, e⟩)] at h2; omega
  · rw [h2, hset_deadL, if_neg (fun hm => hnn (ltN_mem.1 hm).1), ← hpf_hset]
end
end Go.Gv

/- What is known of data that lie in memory: numbers in their ranges, lists of bounded length. -/
namespace Go.Gv
open Go
def inRng (k : IntKind) (n : Int) : Prop := lo k ≤ n ∧ n ≤ hi k
def datOK : (t : Ty) → Dat t → Prop
 | .int k, n => inRng k n
 | .bool, _ => True
 | .str, s => s.length ≤ maxLen
 | .sl t, xs => List.length xs ≤ maxLen ∧ ∀ x ∈ xs, datOK t x
 | .nl, _ => True
 | .cs t r, x => datOK t x.1 ∧ datOK r x.2
 | .st fs, x => datOK fs x
 | .arr n t, xs => List.length xs = n ∧ ∀ x ∈ xs, datOK t x
 | .mp _ _, _ => True
 | .pt t, x => ∀ y, x = some y → datOK t y
 | .ot _, _ => True
 | .fn, _ => True
 | .ni, _ => True
 | .ifc _ _ _, _ => True
theorem rep_ok : ∀ (t : Ty) {x : Dat t} {G : GW} {vs : List Value}, Rep t x G vs → datOK t x
 | .int _, _, _, _, h => has_iff.1 h.2
 | .bool, _, _, _, _ => trivial
 | .str, _, _, _, h => h.2
 | .sl t, xs, G, vs, h => by
  obtain ⟨base, cap, _, h1, h2, h3, h4⟩ := h
  refine ⟨Nat.le_trans h1 h2, fun x hx => ?_⟩
  obtain ⟨i, hi, rfl⟩ := List.getElem_of_mem hx
  cases base with
  | none => have := h3 rfl; omega
  | some a =>
   obtain ⟨cells, _, hr⟩ := (h4 a rfl).2 i _ (List.getElem?_eq_getElem hi)
   exact rep_ok t hr
 | .nl, _, _, _, _ => trivial
 | .cs t r, _, _, _, h => by
  obtain ⟨v1, v2, _, h1, h2⟩ := h
  exact ⟨rep_ok t h1, rep_ok r h2⟩
 | .st fs, _, _, _, h => by unfold Rep at h; exact rep_ok fs h
 | .arr n t, xs, G, vs, h => by
  obtain ⟨h1, _, h2⟩ := h
  refine ⟨h1, fun x hx => ?_⟩
  obtain ⟨i, hi, rfl⟩ := List.getElem_of_mem hx
  exact rep_ok t (h2 i _ (List.getElem?_eq_getElem hi))
 | .mp _ _, _, _, _, _ => trivial
 | .pt t, none, _, _, _ => fun y h => by cases h
 | .pt t, some x, _, _, h => by
  obtain ⟨_, _, _, _, _, hr⟩ := h
  intro y hy
  cases hy
  exact rep_ok t hr
 | .ot _, _, _, _, _ => trivial
 | .fn, _, _, _, _ => trivial
 | .ni, _, _, _, _ => trivial
 | .ifc _ _ _, _, _, _, _ => trivial
def obOK : (κ : Kind) → ObDat κ → Prop
 | .mit k v, x => ∀ e ∈ x.1, datOK k e.1 ∧ datOK v e.2
 | .fm k v, m => ∀ e ∈ m, datOK k e.1 ∧ datOK v e.2
 | .kb k v, m => ∀ e ∈ m, datOK k e.1 ∧ datOK v e.2
 | .log _, _ => True
 | .wk k v, x => ∀ e ∈ x.1, datOK k e.1 ∧ datOK v e.2
def shOK : (s : Sh) → SDat s → Prop
 | .d t, x => datOK t x
 | .row t, xs => datOK (.sl t) xs
 | .take t, xs => datOK (.sl t) xs
 | .spare t, xs => datOK (.sl t) xs
 | .map k v, m => ∀ e ∈ m, datOK k e.1 ∧ datOK v e.2
 | .ob κ, x => obOK κ x
 | .box cs, x => shOK cs x
 | .clos _ cs, x => shOK cs x
 | .agg cs, x => shOK cs x
 | .self _ cs, x => match lstS cs with
  | true => shOK cs x
  | false => True
 | .nilp, _ => True
 | .nils, _ => True
 | .nil, _ => True
 | .cons a b, x => shOK a x.1 ∧ shOK b x.2
theorem row_ok {t : Ty} {xs : List (Dat t)} {v : Value} {β : Asg} {G : GW} (h : satH (.row t xs) v β G) : datOK (.sl t) xs := by
 obtain ⟨base, cap, rfl, h1, h2, h3, h4⟩ := h
 refine ⟨Nat.le_trans h1 h2, fun x hx => ?_⟩
 obtain ⟨i, hi, rfl⟩ := List.getElem_of_mem hx
 cases base with
 | none => have := h3 rfl; omega
 | some a =>
  obtain ⟨cells, _, hr⟩ := (h4 a rfl).2.2 i _ (List.getElem?_eq_getElem hi)
  exact rep_ok t hr
theorem objsA_ne (nm : Nat → Nat) : ∀ (s : Sh) (x : SDat s) (n : Nat), ∀ o ∈ objsA nm s x n, o ≠ HObj.none
 | .d _, _, _, o, h => by cases h
 | .row _, _, _, o, h => by simp [objsA] at h; subst h; simp
 | .take _, _, _, o, h => by simp [objsA] at h; subst h; simp
 | .spare _, _, _, o, h => by simp [objsA] at h; subst h; simp
 | .map _ _, _, _, o, h => by simp [objsA] at h; subst h; simp
 | .ob _, _, _, o, h => by simp [objsA] at h; subst h; simp
 | .box cs, x, n, o, h => by
  rcases List.mem_cons.1 h with rfl | h
  · simp
  · exact objsA_ne nm cs x (n + 1) o h
 | .clos _ cs, x, n, o, h => objsA_ne nm cs x n o h
 | .agg cs, x, n, o, h => objsA_ne nm cs x n o h
 | .self f cs, x, n, o, h => by
  rcases List.mem_cons.1 h with rfl | h
  · simp
  · exact objsA_ne nm cs x (n + 1) o h
 | .nilp, _, _, o, h => by cases h
 | .nils, _, _, o, h => by cases h
 | .nil, _, _, o, h => by cases h
 | .cons a b, x, n, o, h => by
  rcases List.mem_append.1 h with h | h
  · exact objsA_ne nm a x.1 n o h
  · exact objsA_ne nm b x.2 (n + nn a) o h
theorem mapRep_ok {k v : Ty} {m : List (Dat k × Dat v)} {G : GW} {es : Array MapEntry} (h : MapRep k v m G es) : ∀ e ∈ m, datOK k e.1 ∧ datOK v e.2 := by
 obtain ⟨h1, h2⟩ := h
 intro e he
 obtain ⟨i, hi, rfl⟩ := List.getElem_of_mem he
 have hlt : i < es.size := by rw [h1]; exact hi
 obtain ⟨y, hy, r1, r2⟩ := h2 i _ (Array.getElem?_eq_getElem hlt)
 rw [List.getElem?_eq_getElem hi] at hy
 cases hy
 exact ⟨rep_ok k r1.2, rep_ok v r2.2⟩
theorem shOK_of {nm : Nat → Nat} {β : Asg} {G : GW} : ∀ (s : Sh) (x : SDat s) (n : Nat), (∀ (k : Nat) (o : HObj), (objsA nm s x n)[k]? = some o → ∃ v, satH o v β G) →
    ((∃ v, sat (intoA nm s x n) β G v) ∨ (∃ l, satL (intoA nm s x n) β G l) ∨ ∃ l, satT (intoA nm s x n) β G l) → shOK s x
 | .d t, x, n, ho, hs => by
  rcases hs with ⟨v, h⟩ | ⟨l, h⟩ | ⟨l, h⟩
  · unfold intoA sat at h; exact rep_ok t h.2
  · unfold intoA satL at h; exact h.elim
  · unfold intoA satT at h; exact h.elim
 | .row t, xs, n, ho, hs => by
  obtain ⟨v, h⟩ := ho 0 _ rfl
  exact row_ok h
 | .take t, xs, n, ho, hs => by
  obtain ⟨v, h⟩ := ho 0 _ rfl
  exact row_ok h
 | .spare t, xs, n, ho, hs => by
  rcases hs with ⟨v, h⟩ | ⟨l, h⟩ | ⟨l, h⟩
  · unfold intoA sat at h; exact rep_ok (.sl t) h.2.2
  · unfold intoA satL at h; exact h.elim
  · unfold intoA satT at h; exact h.elim
 | .map k v, m, n, ho, hs => by
  obtain ⟨u, h⟩ := ho 0 _ rfl
  obtain ⟨b, es, c, _, _, h1, _⟩ := h
  exact mapRep_ok h1
 | .ob κ, x, n, ho, hs => by
  obtain ⟨u, h⟩ := ho 0 _ rfl
  cases κ with
  | mit k v =>
   obtain ⟨left, y, q⟩ := x
   obtain ⟨r, _, h⟩ := h
   rcases h with ⟨h1, _⟩ | ⟨b, es, c, seen, _, _, _, _, h1, _⟩
   · intro e he
     have he : e ∈ left := he
     rw [h1] at he; cases he
   · exact mapRep_ok h1
  | kb k v =>
   obtain ⟨r, b, es, c, _, _, _, _, _, h1⟩ := h
   exact mapRep_ok h1
  | fm k v =>
   obtain ⟨b, es, c, _, _, _, _, h1⟩ := h
   exact mapRep_ok h1
  | log t => exact trivial
  | wk k v =>
   obtain ⟨m, left, y, q, r⟩ := x
   obtain ⟨b, es, c, seen, _, _, _, h1, _⟩ := h
   exact mapRep_ok h1
 | .box cs, x, n, ho, hs => by
  obtain ⟨v, h⟩ := ho 0 _ rfl
  obtain ⟨b, l, _, hl, _⟩ := h
  exact shOK_of cs x (n + 1) (fun k o hk => ho (k + 1) o (by simpa [objsA] using hk)) (.inr (.inl ⟨l, hl⟩))
 | .clos f cs, x, n, ho, hs => by
  rcases hs with ⟨v, h⟩ | ⟨l, h⟩ | ⟨l, h⟩
  · unfold intoA sat at h
    obtain ⟨l, _, h⟩ := h
    exact shOK_of cs x n ho (.inr (.inr ⟨l, h⟩))
  · unfold intoA satL at h; exact h.elim
  · unfold intoA satT at h; exact h.elim
 | .agg cs, x, n, ho, hs => by
  rcases hs with ⟨v, h⟩ | ⟨l, h⟩ | ⟨l, h⟩
  · unfold intoA sat at h
    obtain ⟨l, _, h⟩ := h
    exact shOK_of cs x n ho (.inr (.inl ⟨l, h⟩))
  · unfold intoA satL at h; exact h.elim
  · unfold intoA satT at h; exact h.elim
 | .self f cs, x, n, ho, hs => by
  unfold shOK
  split
  · rename_i hl
    obtain ⟨v, h⟩ := ho 0 _ rfl
    obtain ⟨b, l, _, h, _⟩ := h
    unfold satL at h
    obtain ⟨u, l', _, _, h1, _⟩ := h
    unfold sat at h1
    obtain ⟨l2, _, h2⟩ := h1
    obtain ⟨l3, w, _, h3, _⟩ := (satT_snoc (isL_into nm cs hl x (n + 1))).1 h2
    exact shOK_of cs x (n + 1) (fun k o hk => ho (k + 1) o (by simpa [objsA] using hk)) (.inr (.inr ⟨l3, h3⟩))
  · trivial
 | .nilp, _, _, _, _ => trivial
 | .nils, _, _, _, _ => trivial
 | .nil, _, _, _, _ => trivial
 | .cons a b, x, n, ho, hs => by
  have hoa : ∀ (k : Nat) (o : HObj), (objsA nm a x.1 n)[k]? = some o → ∃ v, satH o v β G := fun k o hk => ho k o (by
   simp only [objsA]
   rw [List.getElem?_append_left (List.getElem?_eq_some_iff.1 hk).1]; exact hk)
  have hob : ∀ (k : Nat) (o : HObj), (objsA nm b x.2 (n + nn a))[k]? = some o → ∃ v, satH o v β G := fun k o hk => ho ((objsA nm a x.1 n).length + k) o (by
   simp only [objsA]
   rw [List.getElem?_append_right (Nat.le_add_right _ _), Nat.add_sub_cancel_left]; exact hk)
  rcases hs with ⟨v, h⟩ | ⟨l, h⟩ | ⟨l, h⟩
  · unfold intoA sat at h; exact h.elim
  · unfold intoA satL at h
    obtain ⟨v, l', _, _, h1, h2⟩ := h
    exact ⟨shOK_of a x.1 n hoa (.inl ⟨v, h1⟩), shOK_of b x.2 (n + nn a) hob (.inr (.inl ⟨l', h2⟩))⟩
  · unfold intoA satT at h
    obtain ⟨v, l', _, h1, h2⟩ := h
    exact ⟨shOK_of a x.1 n hoa (.inl ⟨v, h1⟩), shOK_of b x.2 (n + nn a) hob (.inr (.inr ⟨l', h2⟩))⟩
end Go.Gv

/- A function: from the goal to the contract. -/
namespace Go.Gv
open Go
theorem resV_eq (l : List Value) : (if h : l.toArray.size = 1 then l.toArray[0] else Value.tuple l.toArray) = resV l := by
 cases l with
 | nil => rfl
 | cons a r =>
  cases r with
  | nil => rfl
  | cons b r => rw [dif_neg (by simp)]; rfl
def resOne (P : Program) (tmps : Array Value) (w : World) : ResultVar → Value → Prop
 | .tmp t, v => v = tmps.getD t undef
 | .cell a t, v => (do loadVar t (← asAddr (tmps.getD a undef)) : Sem Value).run P w = .ok v w
def resAll (P : Program) (tmps : Array Value) (w : World) : List ResultVar → List Value → Prop
 | [], l => l = []
 | r :: rs, l => ∃ v l', l = v :: l' ∧ resOne P tmps w r v ∧ resAll P tmps w rs l'
theorem results_run {P : Program} {fn : Func} (tmps : Array Value) (w : World) {vs : List Value} (h : resAll P tmps w fn.results.toList vs) : (results fn tmps).run P w = .ok (resV vs) w := by
 have key : ∀ (l : List ResultVar) (vs : List Value), resAll P tmps w l vs → ∀ (acc : Array Value), (l.foldlM (fun (bs : Array Value) (r : ResultVar) => bs.push <$> (match r with
       | .tmp t => Pure.pure (tmps.getD t undef)
       | .cell a t => do loadVar t (← asAddr (tmps.getD a undef)) : Sem Value)) acc : Sem (Array Value)).run P w = .ok (acc ++ vs.toArray) w := by
  intro l
  induction l with
  | nil => intro vs hl acc; cases hl; simp
  | cons r l ih =>
   intro vs hl acc
   obtain ⟨v, l', rfl, h1, h2⟩ := hl
   rw [List.foldlM_cons]
   cases r with
   | tmp t =>
    cases h1
    simp only [Sem.run_bind, Sem.run_map, Sem.run_pure, Result.andThen_ok]
    rw [ih _ h2]
    simp
   | cell a t =>
    have h1 : (do loadVar t (← asAddr (tmps.getD a undef)) : Sem Value).run P w = .ok v w := h1
    simp only [Sem.run_bind, Sem.run_map] at h1 ⊢
    rw [h1]
    simp only [Result.andThen_ok]
    rw [ih _ h2]
    simp
 unfold results
 rw [Array.mapM_eq_foldlM]
 rw [← Array.foldlM_toList]
 have hk := key fn.results.toList vs h #[]
 simp only [Sem.run_bind]
 refine Eq.trans (congrArg (fun z => Result.andThen z _) hk) ?_
 simp only [Result.andThen_ok, Sem.run_pure]
 rw [Array.empty_append, resV_eq]
def shLen : Sh → Nat
 | .cons _ b => shLen b + 1
 | .self _ cs => shLen cs + 1
 | _ => 0
theorem satT_len2 {nm : Nat → Nat} {β : Asg} {G : GW} : ∀ (s : Sh) (x : SDat s) (n : Nat) (y : AP) (l : List Value), satT (snocA (intoA nm s x n) y) β G l → l.length = shLen s + 1
 | .cons a b, x, n, y, l, h => by
  unfold intoA snocA satT at h
  obtain ⟨v, l', rfl, _, h2⟩ := h
  have := satT_len2 b x.2 (n + nn a) y l' h2
  simp [shLen, this]
 | .self f cs, x, n, y, l, h => by
  unfold intoA at h
  obtain ⟨l', v, rfl, h1, _⟩ := (satT_snoc (isL_snoc _ _)).1 h
  have := satT_len2 cs x (n + 1) _ l' h1
  simp [shLen, this]
 | .nil, x, n, y, l, h => one h
 | .d t, x, n, y, l, h => one h
 | .row t, x, n, y, l, h => one h
 | .take t, x, n, y, l, h => one h
 | .spare t, x, n, y, l, h => one h
 | .map k v, x, n, y, l, h => one h
 | .ob κ, x, n, y, l, h => one h
 | .box c, x, n, y, l, h => one h
 | .clos _ c, x, n, y, l, h => one h
 | .agg c, x, n, y, l, h => one h
 | .nilp, x, n, y, l, h => one h
 | .nils, x, n, y, l, h => one h
where
 one {β : Asg} {G : GW} {y : AP} {l : List Value} (h : satT (.cons y .nil) β G l) : l.length = 1 := by
  unfold satT at h
  obtain ⟨v, l', rfl, _, h2⟩ := h
  unfold satT at h2; subst h2; rfl
theorem satT_len {nm : Nat → Nat} {β : Asg} {G : GW} : ∀ (s : Sh) (x : SDat s) (n : Nat) (l : List Value), satT (intoA nm s x n) β G l → l.length = shLen s
 | .cons a b, x, n, l, h => by
  unfold intoA satT at h
  obtain ⟨v, l', rfl, _, h2⟩ := h
  have := satT_len b x.2 (n + nn a) l' h2
  simp [shLen, this]
 | .nil, x, n, l, h => by unfold intoA satT at h; subst h; rfl
 | .d t, x, n, l, h => by unfold intoA satT at h; exact h.elim
 | .row t, x, n, l, h => by unfold intoA satT at h; exact h.elim
 | .take t, x, n, l, h => by unfold intoA satT at h; exact h.elim
 | .spare t, x, n, l, h => by unfold intoA satT at h; exact h.elim
 | .map k v, x, n, l, h => by unfold intoA satT at h; exact h.elim
 | .ob κ, x, n, l, h => by unfold intoA satT at h; exact h.elim
 | .box c, x, n, l, h => by unfold intoA satT at h; exact h.elim
 | .clos _ c, x, n, l, h => by unfold intoA satT at h; exact h.elim
 | .self f cs, x, n, l, h => satT_len2 cs x (n + 1) _ l h
 | .nilp, x, n, l, h => by unfold intoA satT at h; exact h.elim
 | .nils, x, n, l, h => by unfold intoA satT at h; exact h.elim
theorem argsGo {β : Asg} {G : GW} : ∀ (X : AP) (n : Nat) (l : List Value), satT X β G l → ∀ s p, lookN (argsSl.go X n) s = some p → p.path = [] ∧ n ≤ s ∧ ∃ v, l[s - n]? = some v ∧ sat p.ap β G v
 | .cons a r, n, l, h, s, p, hp => by
  unfold satT at h
  obtain ⟨v, l', rfl, h1, h2⟩ := h
  unfold argsSl.go at hp
  rw [lookN_cons] at hp
  by_cases hs : s = n
  · rw [if_pos hs] at hp
    simp only [Option.some.injEq] at hp; subst hp
    exact ⟨rfl, by omega, v, by rw [hs, Nat.sub_self]; rfl, h1⟩
  · rw [if_neg hs] at hp
    obtain ⟨g1, g2, u, g3, g4⟩ := argsGo r (n + 1) l' h2 s p hp
    exact ⟨g1, by omega, u, by rw [show s - n = (s - (n + 1)) + 1 by omega]; exact g3, g4⟩
 | .nil, n, l, h, s, p, hp => by cases hp
 | .any, n, l, h, s, p, hp => by cases hp
 | .dat _ _, n, l, h, s, p, hp => by cases hp
 | .blit _, n, l, h, s, p, hp => by cases hp
 | .val _, n, l, h, s, p, hp => by cases hp
 | .agg _, n, l, h, s, p, hp => by cases hp
 | .tup _, n, l, h, s, p, hp => by cases hp
 | .ptr _ _, n, l, h, s, p, hp => by cases hp
 | .ref _, n, l, h, s, p, hp => by cases hp
 | .loc _ _, n, l, h, s, p, hp => by cases hp
 | .rloc _ _ _ _, n, l, h, s, p, hp => by cases hp
 | .vw _ _ _, n, l, h, s, p, hp => by cases hp
 | .dec _, n, l, h, s, p, hp => by cases hp
 | .nxt _, n, l, h, s, p, hp => by cases hp
 | .sl _ _ _, n, l, h, s, p, hp => by cases hp
 | .clos _ _, n, l, h, s, p, hp => by cases hp
theorem HInv.setN {C : Ctx} {hp : Nat → HObj} {β : Asg} {G : GW} (H : HInv C hp β G) (n : Nat) : HInv { C with N := n } hp β G := ⟨H.heap, H.step, H.own, H.owno, H.glob⟩
theorem HInv.unN {C : Ctx} {n : Nat} {hp : Nat → HObj} {β : Asg} {G : GW} (H : HInv { C with N := n } hp β G) : HInv C hp β G := ⟨H.heap, H.step, H.own, H.owno, H.glob⟩
theorem getR_sat {P : Program} {E : Env} (hE : E.ok P = true) {C : Ctx} {rs : RS} {β : Asg} {a : Act} {G : GW} (S0 : Sim C rs β a G) : ∀ (rl : List ResultVar) (l : List AP), getR E rs.hpf rs.slf rl = some l → ∃ vs, resAll P a.tmps G.w rl vs ∧ satT (listA l) β G vs
 | [], l, h => by
  cases h
  exact ⟨[], rfl, by unfold listA satT; rfl⟩
 | .tmp t :: r, l, h => by
  unfold getR at h
  split at h
  · rename_i l' hl
    simp only [Option.some.injEq] at h; subst h
    obtain ⟨vs, h1, h2⟩ := getR_sat hE S0 r l' hl
    refine ⟨_ :: vs, ⟨_, _, rfl, rfl, h1⟩, ?_⟩
    show satT (.cons (rs.slf t).ap (listA l')) β G _
    unfold satT
    refine ⟨_, _, rfl, ((S0.holds (fun _ => false)).slots t).1 (fun e he => ?_), h2⟩
    have he' : e ∈ (rs.slf t).path := he
    rw [S0.flat t] at he'; cases he'
  · cases h
 | .cell t T :: r, l, h => by
  unfold getR at h
  split at h
  · rename_i hh off hX
    split at h
    · rename_i X l' hld hl
      simp only [Option.some.injEq] at h; subst h
      obtain ⟨vs, h1, h2⟩ := getR_sat hE S0 r l' hl
      have hs : sat (rs.slf t).ap β G (a.tmps.getD t undef) := ((S0.holds (fun _ => false)).slots t).1 (fun e he => by
       have he' : e ∈ (rs.slf t).path := he
       rw [S0.flat t] at he'; cases he')
      rw [hX] at hs
      obtain ⟨v, hv, hsv⟩ := loadA_run hE hld (fun _ h => by cases h) (HInv.hs S0.inv) hs
      refine ⟨v :: vs, ⟨_, _, rfl, ?_, h1⟩, ?_⟩
      · unfold sat at hs
        obtain ⟨b, _, e⟩ := hs
        show (do loadVar T (← asAddr (a.tmps.getD t undef)) : Sem Value).run P G.w = .ok v G.w
        rw [e] at hv ⊢
        simpa [Instr.loadAt, Instr.sureAddr, asAddr, Sem.run_bind] using hv
      · show satT (.cons X (listA l')) β G _
        unfold satT
        exact ⟨_, _, rfl, hsv, h2⟩
    · cases h
  · cases h
theorem retAlt_ok {P : Program} {E : Env} (hE : E.ok P = true) {C : Ctx} {ro : Bool} {ins : Sh} {q : Prop} {A : Alt ins} {x : SDat ins} {rl : List ResultVar} {rs : RS} {β β0 : Asg} {a : Act} {G G0 : GW} (h : retAlt E ro q A x rl rs) (S0 : Sim C rs β a G) (hb : β0.le β) (hgl : G0.le G) : q ∧ ∃ vs, resAll P a.tmps G.w rl vs ∧ RetOK C ro ins A x β0 G0 (resV vs) G.w := by
 unfold retAlt at h
 split at h
 · rename_i l hgr
   obtain ⟨vs, hvs, hsat⟩ := getR_sat (P := P) hE S0 rl l hgr
   generalize hfz : frzArgs rs.hpf A.outs l = fz at h
   dsimp only at h
   split at h
   · rename_i y ns ex nx hfo
     split at h
     · rename_i z ms ey nx2 hfb
       split at h
       · rename_i hnd hidk
         obtain ⟨hq, hy, hz⟩ := h
         have hspec : ∀ h o, (h, o) ∈ fz → frzO (rs.hpf h) = some o := fun h o hm => frzArgs_spec A.outs _ h o (by rw [hfz]; exact hm)
         obtain ⟨G1, e1, l1, H1⟩ := HInv.freezeL fz S0.inv hspec
         refine ⟨hq, vs, hvs, ⟨_, β, G1, _, _, rs.nx, y, ns, ex, nx, z, ms, ey, nx2, e1, H1, hb, GW.le_trans hgl l1, rfl, satT.mono _ hsat (Asg.le_refl β) l1, fun n hn => ?_, hfo, hfb, hnd, hy, hz, hidk⟩⟩
         by_cases hk : n ∈ keysH fz
         · obtain ⟨o, hm⟩ := mem_keys hk
           have e := hspec n o hm
           rw [S0.fresh n hn] at e; cases e
         · rw [hset_not hk]; exact S0.fresh n hn
       · exact h.elim
     · exact h.elim
   · exact h.elim
 · exact h.elim
theorem RetOK.unN {C : Ctx} {n : Nat} {ro : Bool} {ins : Sh} {A : Alt ins} {x : SDat ins} {β : Asg} {G : GW} {v : Value} {w : World} (h : RetOK { C with N := n } ro ins A x β G v w) : RetOK C ro ins A x β G v w := by
 obtain ⟨hp', β', G', L, vs, nx, y, ns, ex, nx1, z, ms, ey, nx2, h1, h2, h3⟩ := h.ex
 exact ⟨hp', β', G', L, vs, nx, y, ns, ex, nx1, z, ms, ey, nx2, h1, h2.unN, h3⟩
theorem HInv.rebase {C C1 : Ctx} {hp hp' : Nat → HObj} {β0 β' : Asg} {G0 G' : GW} (H : HInv C hp β0 G0) (h0 : C1.G0 = G0) (hF : ∀ b o, C1.F0 b o → ∃ h v, β0 h = some v ∧ fpc (hp h) v b o) (hFo : ∀ b, C1.Fo0 b → ∃ h v, β0 h = some v ∧ fpo (hp h) v b) (hgl : C1.glob = C.glob)
    (h2 : HInv C1 hp' β' G') : HInv C hp' β' G' := by
 have f1 : ∀ b o, C1.F0 b o → C.F0 b o ∨ C.G0.w.heap.size ≤ b := fun b o k => let ⟨h, v, hv, hf⟩ := hF b o k; H.own h v hv b o hf
 have f2 : ∀ b, C1.Fo0 b → C.Fo0 b ∨ C.G0.w.heap.size ≤ b := fun b k => let ⟨h, v, hv, hf⟩ := hFo b k; H.owno h v hv b hf
 have hst := h2.step
 rw [h0] at hst
 have hsz := H.step.size
 refine ⟨h2.heap, H.step.trans hst f1 f2, fun h v hv b o hf => ?_, fun h v hv b hf => ?_, fun g t x hx => h2.glob g t x (by rw [hgl]; exact hx)⟩
 · rcases h2.own h v hv b o hf with k | k
   · exact f1 b o k
   · rw [h0] at k; exact .inr (by omega)
 · rcases h2.owno h v hv b hf with k | k
   · exact f2 b k
   · rw [h0] at k; exact .inr (by omega)
theorem RetOK.rebase {C C1 : Ctx} {ro : Bool} {ins : Sh} {A : Alt ins} {x : SDat ins} {hp : Nat → HObj} {β β0 : Asg} {G G0 : GW} {v : Value} {w : World} (H : HInv C hp β0 G0) (h0 : C1.G0 = G0) (hF : ∀ b o, C1.F0 b o → ∃ h v, β0 h = some v ∧ fpc (hp h) v b o) (hFo : ∀ b, C1.Fo0 b → ∃ h v, β0 h = some v ∧ fpo (hp h) v b) (hgl : C1.glob = C.glob)
    (h : RetOK C1 ro ins A x β G v w) : RetOK C ro ins A x β G v w := by
 obtain ⟨hp', β', G', L, vs, nx, y, ns, ex, nx1, z, ms, ey, nx2, h1, h2, h3⟩ := h.ex
 exact ⟨hp', β', G', L, vs, nx, y, ns, ex, nx1, z, ms, ey, nx2, h1, H.rebase h0 hF hFo hgl h2, h3⟩
def GW.shut (G : GW) (D : Nat) : GW := { w := G.w.putObj D (.deferred none), im := G.im, imo := fun b => G.imo b ∧ b ≠ D, nz := G.nz }
theorem shut_cells {G : GW} {D : Nat} (h : G.w.heap[D]? = some (.deferred (some []))) (b o : Nat) : (G.shut D).w.cell? ⟨b, o, none⟩ = G.w.cell? ⟨b, o, none⟩ ∧ (G.shut D).w.frozen? ⟨b, o, none⟩ = G.w.frozen? ⟨b, o, none⟩ := by
 by_cases e : b = D
 · subst e
   have h1 : (G.shut b).w.heap[b]? = some (.deferred none) := World.putObj_heap_same (Array.getElem?_eq_some_iff.1 h).1
   have k1 : (G.shut b).w.cell? ⟨b, o, none⟩ = none ∧ (G.shut b).w.frozen? ⟨b, o, none⟩ = false := by
    simp [World.cell?, World.frozen?, h1]
   have k2 : G.w.cell? ⟨b, o, none⟩ = none ∧ G.w.frozen? ⟨b, o, none⟩ = false := by
    simp [World.cell?, World.frozen?, h]
   exact ⟨k1.1.trans k2.1.symm, k1.2.trans k2.2.symm⟩
 · have : (G.shut D).w.heap[b]? = G.w.heap[b]? := World.putObj_heap_other e
   simp only [World.cell?, World.frozen?, this]
   exact ⟨trivial, trivial⟩
theorem Sim.shut {C : Ctx} {rs : RS} {β : Asg} {a : Act} {G : GW} (S : Sim C rs β a G) (O0 : OldOK C.G0) {D : Nat} (hD0 : C.G0.w.heap.size ≤ D) (hi : G.imo D) (h : G.w.heap[D]? = some (.deferred (some []))) {a' : Act} (ht : a'.tmps = a.tmps) (hm : Marks C.m (G.shut D) a'.defers) :
    Sim C rs β a' (G.shut D) := by
 have hne : ∀ b, b ≠ D → (G.shut D).w.heap[b]? = G.w.heap[b]? := fun b e => World.putObj_heap_other e
 have hc := shut_cells h
 have hsz : (G.shut D).w.heap.size = G.w.heap.size := by show (G.w.putObj D _).heap.size = _; simp
 have hst : StepW (fun _ _ => False) (fun b => b = D) G (G.shut D) :=
  ⟨by rw [hsz]; exact Nat.le_refl _, fun b o _ _ => hc b o, fun b _ _ hn => hne b hn, fun b es c hn he => (hne b hn).trans he,
   ⟨fun b o hi => ⟨hi, (hc b o).1⟩, fun b es c hb he => by
    have : b ≠ D := fun e => by subst e; rw [h] at he; cases he
    exact ⟨⟨hb, this⟩, (hne b this).trans he⟩⟩, fun b o hi => .inl hi, fun b hb => .inl hb.1, rfl⟩
 have hJ := S.inv.heap.j.keep hst (fun _ _ _ _ _ _ k => k) (fun n v hv b hf e => by subst e; exact (S.inv.heap.imo n v hv _ hf).1 hi)
 have hOk : OldOK (G.shut D) := ⟨fun b o hb => by rw [hsz]; exact S.inv.heap.old b o hb, fun b hb => by
  obtain ⟨o, e, k⟩ := S.inv.heap.oldo b hb.1
  exact ⟨o, (hne b hb.2).trans e, k⟩⟩
 have H := S.inv.step
 have hs0 : Step C.F0 C.Fo0 C.G0 (G.shut D) := by
  refine ⟨H.os, H.tape, H.output, by rw [hsz]; exact H.size, fun b o hb hn => ?_, fun b hb hn ho => ?_, fun b es c ho he => ?_, ⟨fun b o hi => ⟨(H.le.1 b o hi).1, (hc b o).1.trans (H.le.1 b o hi).2⟩, fun b hb => ?_⟩, H.new, fun b hb => H.newo b hb.1, H.drawn, H.nz⟩
  · have := H.cell b o hb hn
    exact ⟨(hc b o).1.trans this.1, (hc b o).2.trans this.2⟩
  · exact (hne b (by omega)).trans (H.blk b hb hn ho)
  · have h1 := H.obj b es c ho he
    exact (hne b (fun e => by subst e; rw [h] at h1; cases h1)).trans h1
  · have hlt : b < C.G0.w.heap.size := by
     obtain ⟨o, e, _⟩ := O0.oldo b hb
     exact (Array.getElem?_eq_some_iff.1 e).1
    have hbD : b ≠ D := by omega
    exact ⟨⟨(H.le.2 b hb).1, hbD⟩, (hne b hbD).trans (H.le.2 b hb).2⟩
 refine ⟨fun γ => ⟨fun s => ?_, by rw [ht]; exact (S.holds γ).size, hm, ⟨hJ.ok hOk, hs0, S.inv.own, S.inv.owno, fun g t x hx => (S.inv.glob g t x hx).monoW hst.le⟩⟩, S.flat, S.fresh, S.gd, S.vc, S.tr⟩
 rw [ht]
 exact ⟨fun hp => sat.monoW _ (((S.holds γ).slots s).1 hp) (Asg.le_refl β) hst.le, ((S.holds γ).slots s).2⟩
theorem leaves_marks {P : Program} {C : Ctx} (O0 : OldOK C.G0) (hm : C.m = C.G0.w.heap.size) {fn : Func} {R : Ending → World → Prop} {rs : RS} {β : Asg} : ∀ (l : List Nat) {a : Act} {G : GW}, Sim C rs β a G → a.defers = l.map (fun D => { target := .collected D, args := #[] }) → l.Nodup → (∀ D ∈ l, C.m ≤ D ∧ G.imo D ∧ G.w.heap[D]? = some (.deferred (some []))) →
    (∀ (a' : Act) (G' : GW), Sim C rs β a' G' → a'.defers = [] → a'.tmps = a.tmps → ∃ v, (results fn a'.tmps).run P G'.w = .ok v G'.w ∧ R (.returned v) G'.w) → LeavesInM Fence.wide 0 P fn a.tmps R a.defers .returning G.w
 | [], a, G, S, e, _, _, hR => by
  rw [e]
  exact hR a G S e rfl
 | D :: l, a, G, S, e, hn, hl, hR => by
  obtain ⟨h1, h2, h3⟩ := hl D List.mem_cons_self
  obtain ⟨hnm, hn'⟩ := List.nodup_cons.1 hn
  have hl' : ∀ D' ∈ l, C.m ≤ D' ∧ (G.shut D).imo D' ∧ (G.shut D).w.heap[D']? = some (.deferred (some [])) := fun D' hD' => by
   obtain ⟨k1, k2, k3⟩ := hl D' (List.mem_cons_of_mem _ hD')
   have hne : D' ≠ D := fun e => hnm (e ▸ hD')
   exact ⟨k1, ⟨k2, hne⟩, (World.putObj_heap_other hne).trans k3⟩
  have S' : Sim C rs β { a with defers := l.map (fun D => { target := .collected D, args := #[] }) } (G.shut D) := S.shut O0 (by omega) h2 h3 rfl ⟨l, rfl, hn', hl'⟩
  rw [e]
  exact ⟨by simp, .inl ⟨D, (G.shut D).w, rfl, run_takeDeferred h3, leaves_marks O0 hm l S' rfl hn' hl' hR⟩⟩
theorem fun_ok {P : Program} {c : Cf} (hE : c.E.ok P = true) (hS : SpecsOK P c.gl c.F c.nz) (hL : LateOK P c) (hmix : P.follows .mixedOrders = true) {f : FuncId} {fn : Func} (hf : P.funcs[f]? = some fn) (hb : fn.body.isSome = true) (hN : fn.ntmps = c.N)
    {ins : Sh} (hlen : shLen ins ≤ c.N) {x : SDat ins} {C : Ctx} {β : Asg} {G : GW} {args : List Value} (hg : GlobIs C c) (H : HInv C (canon ins x) β G) (hargs : satT (intoA (fun k => k) ins x 0) β G args)
    {sl0 : List (Nat × PA)} (hsl0 : ∀ s p, lookN sl0 s = some p → p.path = [] ∧ ∃ v, args[s]? = some v ∧ sat p.ap β G v) {Kr : RS → Prop} (hgx : wpA c (bodyOf fn) { sl := sl0, hp := intoH (fun k => k) ins x 0 [], nx := nn ins } (fun e rs => match e with
        | .ret => Kr rs
        | .normal => Kr rs
        | _ => False)) {R : Value → World → Prop}
    (hret : ∀ (C1 : Ctx), C1.G0 = G → (∀ b o, C1.F0 b o → ∃ h v, β h = some v ∧ fpc (canon ins x h) v b o) → (∀ b, C1.Fo0 b → ∃ h v, β h = some v ∧ fpo (canon ins x h) v b) → C1.glob = C.glob →
     ∀ rs' β' a' G', Kr rs' → Sim C1 rs' β' a' G' → β.le β' → G.le G' → ∃ v, (results fn a'.tmps).run P G'.w = .ok v G'.w ∧ R v G'.w) : Calls P f args.toArray G.w (fun e w' => match e with
     | .returned v => R v w'
     | _ => False) := by
 obtain ⟨code, hcode⟩ := Option.isSome_iff_exists.1 hb
 have hal := satT_len _ _ _ _ hargs
 unfold bodyOf at hgx
 rw [hcode] at hgx
 have hgx : wpA c code { sl := sl0, hp := intoH (fun k => k) ins x 0 [], nx := nn ins } (fun e rs => match e with
     | .ret => Kr rs
     | .normal => Kr rs
     | _ => False) := hgx
 refine callsIn_wide.1 (callsIn_of_wp_marks (F := Fence.wide) (n := 0) hf hcode trivial ?_)
 let C1 : Ctx := { ctxSelf (canon ins x) β G C.glob c.N with m := G.w.heap.size }
 have H1 : HInv C1 (canon ins x) β G := ⟨H.heap, Step.refl _ _ _, fun h v hv _ _ hf => .inl ⟨h, v, hv, hf⟩, fun h v hv _ hf => .inl ⟨h, v, hv, hf⟩, H.glob⟩
 let a0 : Act := { tmps := args.toArray ++ Array.replicate (fn.ntmps - args.toArray.size) undef, defers := [] }
 have hsz : a0.tmps.size = c.N := by
  show (args.toArray ++ Array.replicate (fn.ntmps - args.toArray.size) undef).size = c.N
  simp
  omega
 have hhp : ∀ h, ({ sl := sl0, hp := intoH (fun k => k) ins x 0 [], nx := nn ins } : RS).hpf h = canon ins x h := fun h => hpf_hset _ h
 have hslot : ∀ s, (({ sl := sl0, hp := intoH (fun k => k) ins x 0 [], nx := nn ins } : RS).slf s).path = [] ∧ sat (({ sl := sl0, hp := intoH (fun k => k) ins x 0 [], nx := nn ins } : RS).slf s).ap β G (a0.tmps.getD s undef) := fun s => by
  unfold RS.slf
  dsimp only
  cases hl : lookN sl0 s with
  | none => exact ⟨rfl, by unfold sat; trivial⟩
  | some p =>
   obtain ⟨g1, v, g3, g4⟩ := hsl0 s p hl
   refine ⟨g1, ?_⟩
   have : a0.tmps.getD s undef = v := by
    show (args.toArray ++ Array.replicate (fn.ntmps - args.toArray.size) undef).getD s undef = v
    have hlt := (List.getElem?_eq_some_iff.1 g3).1
    rw [Array.getD_eq_getD_getElem?, Array.getElem?_append_left (by simpa using hlt)]
    simp [g3]
   rw [this]; exact g4
 have hsim : Sim C1 { sl := sl0, hp := intoH (fun k => k) ins x 0 [], nx := nn ins } β a0 G :=
  ⟨fun γ => ⟨fun s => ⟨fun _ => (hslot s).2, fun hn => (hn (fun e he => by
      have he' : e ∈ (({ sl := sl0, hp := intoH (fun k => k) ins x 0 [], nx := nn ins } : RS).slf s).path := he
      rw [(hslot s).1] at he'; cases he')).elim⟩, hsz, Marks.nil _ _, by
      show HInv _ ({ sl := sl0, hp := intoH (fun k => k) ins x 0 [], nx := nn ins } : RS).hpf β G
      rw [funext hhp]; exact H1⟩, fun s => (hslot s).1, fun n hn => by rw [hhp]; exact canon_out ins x hn, rfl, rfl, rfl⟩
 have hO : OldOK C1.G0 := H.heap.o
 have hend : ∀ rs' β' a' G', Kr rs' → Sim C1 rs' β' a' G' → β.le β' → LeavesInM Fence.wide 0 P fn a'.tmps (fun e w' => match e with
     | .returned v => R v w'
     | _ => False) a'.defers .returning G'.w := fun rs' β' a' G' hK S' hb' => by
  obtain ⟨l, e, hn, hl⟩ := (S'.holds (fun _ => false)).defers
  exact leaves_marks hO rfl l S' e hn hl fun a2 G2 S2 _ ht => by
   obtain ⟨v, h1, h2⟩ := hret C1 rfl (fun b o k => k) (fun b k => k) rfl rs' β' a2 G2 hK S2 hb' S2.inv.step.le
   exact ⟨v, h1, h2⟩
 show code.wpIn (WF none) 0 P _ a0 G.w
 refine wpA_sound hE hS hL hmix code C1 ⟨hg.eq, fun h => by show G.nz; rw [H.step.nz]; exact hg.nz h⟩ rfl (Nat.le_refl _) none (.inl rfl) _ _ β a0 G _ hgx hsim fun e rs' β' a' G' hK hs' hb' hgl _ _ => ?_
 cases e with
 | normal => exact hend rs' β' a' G' hK hs' hb'
 | ret => exact hend rs' β' a' G' hK hs' hb'
 | exit i => exact hK.elim
theorem spec_ok_gen {P : Program} {c : Cf} (hE : c.E.ok P = true) (hS : SpecsOK P c.gl c.F c.nz) (hL : LateOK P c) (hmix : P.follows .mixedOrders = true) {f : FuncId} {fn : Func} {S : Spec} (hf : P.funcs[f]? = some fn) (hb : fn.body.isSome = true) (hnm : (fn.name == "runtime.NumGoroutine") = false) (hN : fn.ntmps = c.N)
    (hlen : shLen S.ins ≤ c.N) (hsel : ∀ x, S.pre x → S.sel x < S.alts.length) (hgoal : ∀ x, S.pre x → shOK S.ins x → ∀ (β : Asg) (G : GW) (args : List Value), satT (intoA (fun k => k) S.ins x 0) β G args →
     ∃ sl0 : List (Nat × PA), (∀ s p, lookN sl0 s = some p → p.path = [] ∧ ∃ v, args[s]? = some v ∧ sat p.ap β G v) ∧ wpA c (bodyOf fn) { sl := sl0, hp := intoH (fun k => k) S.ins x 0 [], nx := nn S.ins } (fun e rs => match e with
      | .ret => retA c.E S x fn.results.toList rs
      | .normal => retA c.E S x fn.results.toList rs
      | _ => False)) (hnz : c.nz = true → S.noisy = true) : SpecOK P c.gl f S := by
 refine ⟨⟨fn, hf, by obtain ⟨code, hcode⟩ := Option.isSome_iff_exists.1 hb; rw [hcode]; rfl, hnm⟩, fun x hpre => ⟨_, List.getElem?_eq_getElem (hsel x hpre), ?_⟩⟩
 intro C β G args hg hz H hargs
 have hok : shOK S.ins x := shOK_of (nm := fun k => k) S.ins x 0 (fun k o hk => by
  have hc := canon_at S.ins x hk
  obtain ⟨v, _, hs⟩ := H.heap.sat k (by rw [hc]; exact objsA_ne _ S.ins x 0 o (List.mem_of_getElem? hk))
  rw [hc] at hs
  exact ⟨v, hs⟩) (.inr (.inr ⟨args, hargs⟩))
 obtain ⟨sl0, hsl0, hgx⟩ := hgoal x hpre hok β G args hargs
 refine fun_ok hE hS hL hmix hf hb hN hlen ⟨hg, fun h => hz (hnz h)⟩ H hargs hsl0 hgx fun C1 h0 hF hFo hgl1 rs' β' a' G' hr hs' hb' hgl => ?_
 unfold retA at hr
 split at hr
 · rename_i A hAs
   obtain ⟨hq, vs, hvs, hok⟩ := retAlt_ok (P := P) hE hr hs' hb' hgl
   have : S.alts[S.sel x]'(hsel x hpre) = A := by
    have h1 : S.alts[S.sel x]? = some A := by rw [hAs, hq]; rfl
    exact (List.getElem?_eq_some_iff.1 h1).2
   rw [this]
   exact ⟨_, results_run a'.tmps G'.w hvs, hok.rebase H h0 hF hFo hgl1⟩
 · obtain ⟨k, A, hA, hr⟩ := hr
   obtain ⟨hq, vs, hvs, hok⟩ := retAlt_ok (P := P) hE hr hs' hb' hgl
   have : S.alts[S.sel x]'(hsel x hpre) = A := by
    have h1 : S.alts[S.sel x]? = some A := by rw [hq]; exact hA
    exact (List.getElem?_eq_some_iff.1 h1).2
   rw [this]
   exact ⟨_, results_run a'.tmps G'.w hvs, hok.rebase H h0 hF hFo hgl1⟩
noncomputable def retL (E : Env) (S : LSpec) (x : SDat S.ins) (rl : List ResultVar) (rs : RS) : Prop := ∃ χ, S.ok x χ ∧ retAlt E false True (S.alt χ) x rl rs
noncomputable def fnGoalL (c : Cf) (f : Func) (S : LSpec) (x : SDat S.ins) : Prop :=
 forceRS { sl := argsSl S.ins x, hp := intoH (fun k => k) S.ins x 0 [], nx := nn S.ins } (fun rs0 => wpA c (bodyOf f) rs0 (fun e rs => match e with
  | .ret => retL c.E S x f.results.toList rs
  | .normal => retL c.E S x f.results.toList rs
  | _ => False))
theorem lspec_ok {P : Program} {c : Cf} (hE : c.E.ok P = true) (hS : SpecsOK P c.gl c.F c.nz) (hL : LateOK P c) (hmix : P.follows .mixedOrders = true) {f : FuncId} {fn : Func} {S : LSpec} (hf : P.funcs[f]? = some fn) (hb : fn.body.isSome = true) (hnm : (fn.name == "runtime.NumGoroutine") = false) (hN : fn.ntmps = c.N)
    (hlen : shLen S.ins ≤ c.N) (hgoal : ∀ x, S.pre x → shOK S.ins x → fnGoalL c fn S x) (hnz : c.nz = true → S.noisy = true) : LSpecOK P c.gl f S := by
 refine ⟨⟨fn, hf, by obtain ⟨code, hcode⟩ := Option.isSome_iff_exists.1 hb; rw [hcode]; rfl, hnm⟩, fun x hpre C β G args hg hz H hargs => ?_⟩
 have hok : shOK S.ins x := shOK_of (nm := fun k => k) S.ins x 0 (fun k o hk => by
  have hc := canon_at S.ins x hk
  obtain ⟨v, _, hs⟩ := H.heap.sat k (by rw [hc]; exact objsA_ne _ S.ins x 0 o (List.mem_of_getElem? hk))
  rw [hc] at hs
  exact ⟨v, hs⟩) (.inr (.inr ⟨args, hargs⟩))
 have hgx := hgoal x hpre hok
 unfold fnGoalL at hgx
 rw [forceRS_eq] at hgx
 refine fun_ok hE hS hL hmix hf hb hN hlen ⟨hg, fun h => hz (hnz h)⟩ H hargs (sl0 := argsSl S.ins x) (fun s p hl => by
  obtain ⟨g1, _, v, g3, g4⟩ := argsGo _ 0 args hargs s p hl
  rw [Nat.sub_zero] at g3
  exact ⟨g1, v, g3, g4⟩) hgx fun C1 h0 hF hFo hgl1 rs' β' a' G' hr hs' hb' hgl => ?_
 obtain ⟨χ, hχ, hr⟩ := hr
 obtain ⟨_, vs, hvs, hok⟩ := retAlt_ok (P := P) hE hr hs' hb' hgl
 exact ⟨_, results_run a'.tmps G'.w hvs, χ, hχ, hok.rebase H h0 hF hFo hgl1⟩
noncomputable def retI (c : Cf) (ts : List Ty) (D : Eater → Prop) (rs : RS) : Prop := ∃ (h : Nat) (E' : Eater), rs.hpf h = .ob (.log ts) ([], E', D) ∧ c.eat ts D [] E'
noncomputable def fnGoalI (c : Cf) (f : Func) (S : ItSpec) (x : SDat (.cons (.ob (.log S.ts)) S.caps)) : Prop :=
 forceRS { sl := argsSl (.cons (.ob (.log S.ts)) S.caps) x, hp := intoH (fun k => k) (.cons (.ob (.log S.ts)) S.caps) x 0 [], nx := nn (.cons (.ob (.log S.ts)) S.caps) } (fun rs0 => wpA c (bodyOf f) rs0 (fun e rs => match e with
  | .ret => retI c S.ts x.1.2.2 rs
  | .normal => retI c S.ts x.1.2.2 rs
  | _ => False))
theorem it_ok {P : Program} {c : Cf} (hE : c.E.ok P = true) (hS : SpecsOK P c.gl c.F c.nz) (hL : LateOK P c) (hmix : P.follows .mixedOrders = true) {f : FuncId} {fn : Func} {S : ItSpec} (hf : P.funcs[f]? = some fn) (hb : fn.body.isSome = true) (hnm : (fn.name == "runtime.NumGoroutine") = false) (hN : fn.ntmps = c.N)
    (hlen : shLen S.caps + 1 ≤ c.N) (hres : fn.results.toList = []) (heat : c.eat = Eats P) (hgoal : ∀ x, S.pre x.2 → x.1.1 = S.seq x.2 → c.eat S.ts x.1.2.2 x.1.1 x.1.2.1 → shOK (.cons (.ob (.log S.ts)) S.caps) x → fnGoalI c fn S x) (hnz : c.nz = true → S.noisy = true) : ItOK P c.gl f S := by
 refine ⟨⟨fn, hf, by obtain ⟨code, hcode⟩ := Option.isSome_iff_exists.1 hb; rw [hcode]; rfl, hnm⟩, fun x hpre hseq heats C β G args hg hz H hargs => ?_⟩
 have hok : shOK (.cons (.ob (.log S.ts)) S.caps) x := shOK_of (nm := fun k => k) _ x 0 (fun k o hk => by
  have hc := canon_at _ x hk
  obtain ⟨v, _, hs⟩ := H.heap.sat k (by rw [hc]; exact objsA_ne _ _ x 0 o (List.mem_of_getElem? hk))
  rw [hc] at hs
  exact ⟨v, hs⟩) (.inr (.inr ⟨args, hargs⟩))
 have hgx := hgoal x hpre hseq (by rw [heat]; exact heats) hok
 unfold fnGoalI at hgx
 rw [forceRS_eq] at hgx
 refine fun_ok hE hS hL hmix hf hb hN (by exact hlen) ⟨hg, fun h => hz (hnz h)⟩ H hargs (sl0 := argsSl (.cons (.ob (.log S.ts)) S.caps) x) (fun s p hl => by
  obtain ⟨g1, _, v, g3, g4⟩ := argsGo _ 0 args hargs s p hl
  rw [Nat.sub_zero] at g3
  exact ⟨g1, v, g3, g4⟩) hgx fun C1 h0 hF hFo hgl1 rs' β' a' G' hr hs' hb' hgl => ?_
 obtain ⟨h, E', hh, he⟩ := hr
 rw [heat] at he
 exact ⟨_, results_run a'.tmps G'.w (vs := []) (by rw [hres]; rfl), rs'.hpf, β', G', h, E', rfl, H.rebase h0 hF hFo hgl1 hs'.inv, hgl, hh, he⟩
theorem spec_ok {P : Program} {c : Cf} (hE : c.E.ok P = true) (hS : SpecsOK P c.gl c.F c.nz) (hL : LateOK P c) (hmix : P.follows .mixedOrders = true) {f : FuncId} {fn : Func} {S : Spec} (hf : P.funcs[f]? = some fn) (hb : fn.body.isSome = true) (hnm : (fn.name == "runtime.NumGoroutine") = false) (hN : fn.ntmps = c.N)
    (hlen : shLen S.ins ≤ c.N) (hsel : ∀ x, S.pre x → S.sel x < S.alts.length) (hgoal : ∀ x, S.pre x → shOK S.ins x → fnGoal c fn S x) (hnz : c.nz = true → S.noisy = true) : SpecOK P c.gl f S :=
 spec_ok_gen hE hS hL hmix hf hb hnm hN hlen hsel (hnz := hnz) fun x hpre hok β G args hargs => ⟨argsSl S.ins x, fun s p hl => by
  obtain ⟨g1, _, v, g3, g4⟩ := argsGo _ 0 args hargs s p hl
  rw [Nat.sub_zero] at g3
  exact ⟨g1, v, g3, g4⟩, by have := hgoal x hpre hok; unfold fnGoal at this; rw [forceRS_eq] at this; exact this⟩
end Go.Gv

/- The arguments of a law: what reads as data in a world holds data. -/
namespace Go.Gv
open Go
def GW.all (W : World) : GW := { w := W, im := fun b _ => b < W.heap.size, imo := fun b => ∃ es c, W.heap[b]? = some (.map es c), nz := True }
def plainTy : Ty → Bool
 | .int _ => true
 | .bool => true
 | .str => true
 | .sl t => plainTy t
 | .nl => true
 | .cs t r => plainTy t && plainTy r
 | .st fs => plainTy fs
 | .arr _ t => plainTy t
 | _ => false
theorem cellsOf_tym {P : Program} {t : Ty} {T : TypeId} (h : tym P t T = true) : P.cellsOf T = t.size := by
 obtain ⟨i, hi, h1, _⟩ := tym_info h
 unfold Program.cellsOf
 rw [hi]; exact h1
theorem cell_lt {w : World} {b o : Nat} {v : Value} (h : w.cell? ⟨b, o, none⟩ = some v) : b < w.heap.size := by
 unfold World.cell? at h
 split at h
 · rename_i hb; exact (Array.getElem?_eq_some_iff.1 hb).1
 · cases h
theorem wf_has {k : IntKind} {n : Int} (h : (Lit.int k n).wf = true) : k.has n := by
 simpa [Lit.wf, IntKind.has] using h
theorem choose_list {α : Type} {p : Nat → α → Prop} : ∀ (n : Nat), (∀ i, i < n → ∃ x, p i x) → ∃ l : List α, l.length = n ∧ ∀ (i : Nat) (x : α), l[i]? = some x → p i x
 | 0, _ => ⟨[], rfl, fun i x h => by simp at h⟩
 | n + 1, h => by
  obtain ⟨l, hl, hp⟩ := choose_list n (fun i hi => h i (by omega))
  obtain ⟨x, hx⟩ := h n (by omega)
  refine ⟨l ++ [x], by simp [hl], fun i y hy => ?_⟩
  by_cases hi : i < l.length
  · rw [List.getElem?_append_left hi] at hy; exact hp i y hy
  · rw [List.getElem?_append_right (by omega)] at hy
    have hi2 : i - l.length = 0 := by
     have := (List.getElem?_eq_some_iff.1 hy).1
     simp at this; omega
    rw [hi2] at hy
    simp at hy; subst hy
    have : i = n := by omega
    rw [this]; exact hx
section
variable {H : Type} {enc : TypeId × Value → H} {P : Program} {W : World}
mutual
theorem trod_rep : ∀ (t : Ty), plainTy t = true → ∀ (T : TypeId) (fuel : Nat) (cs : List Value) (x : DataW H × List MemPlace), tym P t T = true → DataW.trod enc P W 0 (fun _ => true) true fuel T cs = some x → ∃ d : Dat t, Rep t d (GW.all W) cs
 | .int k, _, T, fuel, cs, x, hT, h => by
  obtain ⟨n, rfl, _, hw⟩ := DataW.trod_int (und_int hT) h
  exact ⟨n, rfl, wf_has hw⟩
 | .bool, _, T, fuel, cs, x, hT, h => by
  obtain ⟨b, rfl, _⟩ := DataW.trod_bool (und_bool hT) h
  exact ⟨b, by unfold Rep; rfl⟩
 | .str, _, T, fuel, cs, x, hT, h => by
  obtain ⟨s, rfl, _, hl⟩ := DataW.trod_string (und_str hT) h
  exact ⟨s.data.toList, by cases s; rfl, hl⟩
 | .sl t, hp, T, fuel, cs, x, hT, h => by
  obtain ⟨e, hue, hte, hsz⟩ := und_sl hT
  rcases Deep.open_slice hue h with ⟨rfl, _⟩ | ⟨a, len, cap, m, n, D, Pl, rfl, _, hlc, hcm, hm, _, hx⟩
  · exact ⟨[], none, 0, rfl, Nat.le_refl _, Nat.zero_le _, fun _ => rfl, fun _ h => by cases h⟩
  · have hmc : m = cap := by simpa using hm
    subst hmc
    have hce := cellsOf_tym hte
    have hpos : 0 < t.size := by omega
    have hspot : 0 < m → a.spot = none := fun hm0 => by
     obtain ⟨cs', h1, _⟩ := hx 0 hm0
     obtain ⟨_, hlen, hc⟩ := World.cells?_some h1
     have h0 := hc 0 (by rw [hce]; exact hpos)
     rw [Nat.zero_mul, Addr.add_zero', Addr.add_zero'] at h0
     have hne : (W.cell? a).isSome = true := by
      rw [h0, List.getElem?_eq_getElem (by rw [hlen, hce]; exact hpos)]; rfl
     unfold World.cell? at hne
     split at hne
     · split at hne
       · cases hne
       · rename_i hs; simpa using hs
     · cases hne
    have hcell : ∀ i, i < m → ∃ cs' : List Value, CellsIm (GW.all W) a.block (a.off + i * t.size) cs' ∧ ∃ y, DataW.trod enc P W 0 (fun _ => true) true n e cs' = some y := fun i hi => by
     obtain ⟨cs', h1, h2⟩ := hx i hi
     obtain ⟨_, hlen, hc⟩ := World.cells?_some h1
     refine ⟨cs', fun j v hv => ?_, _, h2⟩
     have hj := (List.getElem?_eq_some_iff.1 hv).1
     have h3 := hc j (by rw [← hlen]; exact hj)
     rw [addr_add a (hspot (by omega)), addr_add _ rfl, hv, hce] at h3
     exact ⟨cell_lt h3, h3⟩
    obtain ⟨xs, hxl, hxs⟩ := choose_list (p := fun i (d : Dat t) => ∃ cs' : List Value, CellsIm (GW.all W) a.block (a.off + i * t.size) cs' ∧ Rep t d (GW.all W) cs') len (fun i hi => by
     obtain ⟨cs', h1, y, h2⟩ := hcell i (by omega)
     obtain ⟨d, hd⟩ := trod_rep t hp e n cs' y hte h2
     exact ⟨d, cs', h1, hd⟩)
    refine ⟨xs, some a, m, by rw [hxl], by rw [hxl]; exact hlc, hcm, fun h => (by cases h), fun a' ha' => ?_⟩
    cases ha'
    exact ⟨hspot, fun i d hd => hxs i d hd⟩
 | .st fs, hp, T, fuel, cs, x, hT, h => by
  obtain ⟨f, huf, htf⟩ := und_st hT
  obtain ⟨xs, n, _, _, hlen, hxl, hf⟩ := DataW.trod_struct huf h
  rw [cellsOf_tym hT] at hlen
  have hlen : cs.length = fs.size := hlen
  obtain ⟨d, hd⟩ := trod_repF fs hp f.toList 0 n cs htf (by omega) (fun i fl hi => by
   have hi' : f[i]? = some fl := by simpa using hi
   have hlt : i < xs.length := by rw [hxl]; exact (Array.getElem?_eq_some_iff.1 hi').1
   exact ⟨xs[i], by rw [hf i fl hi', List.getElem?_eq_getElem hlt]⟩)
  refine ⟨d, ?_⟩
  rw [List.drop_zero, ← hlen, List.take_length] at hd
  unfold Rep; exact hd
 | .arr n t, hp, T, fuel, cs, x, hT, h => by
  obtain ⟨e, hue, hte, hsz⟩ := und_arr hT
  obtain ⟨xs, m, _, _, hlen, hxl, hx⟩ := DataW.trod_array hue h
  rw [cellsOf_tym hT] at hlen
  have hce := cellsOf_tym hte
  obtain ⟨l, hl, hls⟩ := choose_list (p := fun i (d : Dat t) => Rep t d (GW.all W) ((cs.drop (i * t.size)).take t.size)) n (fun i hi => by
   have := hx i hi
   rw [hce, List.getElem?_eq_getElem (by omega)] at this
   exact trod_rep t hp e m _ _ hte this)
  exact ⟨l, hl, hlen, fun i d hd => hls i d hd⟩
 | .nl, _, T, fuel, cs, x, hT, h => by simp [tym] at hT
 | .cs _ _, _, T, fuel, cs, x, hT, h => by simp [tym] at hT
 | .mp _ _, hp, T, fuel, cs, x, hT, h => by cases hp
 | .pt _, hp, T, fuel, cs, x, hT, h => by cases hp
 | .ot _, hp, T, fuel, cs, x, hT, h => by cases hp
 | .fn, hp, T, fuel, cs, x, hT, h => by cases hp
 | .ni, hp, T, fuel, cs, x, hT, h => by cases hp
 | .ifc _ _ _, hp, T, fuel, cs, x, hT, h => by cases hp
theorem trod_repF : ∀ (fs : Ty), plainTy fs = true → ∀ (l : List Field) (off fuel : Nat) (cs : List Value), tymF P fs l off = true → off + fs.size ≤ cs.length →
    (∀ (i : Nat) (f : Field), l[i]? = some f → ∃ x, DataW.trod enc P W 0 (fun _ => true) true fuel f.type ((cs.drop f.offset).take (P.cellsOf f.type)) = some x) → ∃ d : Dat fs, Rep fs d (GW.all W) ((cs.drop off).take fs.size)
 | .nl, _, l, off, fuel, cs, ht, hl, hx => ⟨(), by unfold Rep; simp [Ty.size]⟩
 | .cs t r, hp, [], off, fuel, cs, ht, hl, hx => by simp [tymF] at ht
 | .cs t r, hp, f :: fl, off, fuel, cs, ht, hl, hx => by
  simp only [tymF, Bool.and_eq_true, beq_iff_eq, bne_iff_ne] at ht
  obtain ⟨⟨⟨hoff, hsz⟩, hT⟩, hr⟩ := ht
  simp only [plainTy, Bool.and_eq_true] at hp
  obtain ⟨y, hy⟩ := hx 0 f rfl
  rw [hoff, cellsOf_tym hT] at hy
  obtain ⟨d1, h1⟩ := trod_rep t hp.1 f.type fuel _ y hT hy
  have hl' : off + (t.size + r.size) ≤ cs.length := hl
  obtain ⟨d2, h2⟩ := trod_repF r hp.2 fl (off + t.size) fuel cs hr (by omega) (fun i g hg => hx (i + 1) g (by simpa using hg))
  refine ⟨(d1, d2), _, _, ?_, h1, h2⟩
  show (cs.drop off).take (t.size + r.size) = _
  rw [List.take_add, List.drop_drop]
 | .int _, _, l, off, fuel, cs, ht, hl, hx => by simp [tymF] at ht
 | .bool, _, l, off, fuel, cs, ht, hl, hx => by simp [tymF] at ht
 | .str, _, l, off, fuel, cs, ht, hl, hx => by simp [tymF] at ht
 | .sl _, _, l, off, fuel, cs, ht, hl, hx => by simp [tymF] at ht
 | .st _, _, l, off, fuel, cs, ht, hl, hx => by simp [tymF] at ht
 | .arr _ _, _, l, off, fuel, cs, ht, hl, hx => by simp [tymF] at ht
 | .mp _ _, _, l, off, fuel, cs, ht, hl, hx => by simp [tymF] at ht
 | .pt _, _, l, off, fuel, cs, ht, hl, hx => by simp [tymF] at ht
 | .ot _, _, l, off, fuel, cs, ht, hl, hx => by simp [tymF] at ht
 | .fn, _, l, off, fuel, cs, ht, hl, hx => by simp [tymF] at ht
 | .ni, _, l, off, fuel, cs, ht, hl, hx => by simp [tymF] at ht
 | .ifc _ _ _, _, l, off, fuel, cs, ht, hl, hx => by simp [tymF] at ht
end
end
end Go.Gv

/- A law: from its function's contract to its row. -/
namespace Go.Gv
open Go
theorem canon_none {s : Sh} (hn : nn s = 0) (x : SDat s) : canon s x = fun _ => .none := by
 funext k
 exact canon_out s x (by omega)
def lawC (gl : Glob) (W : World) : Ctx := { G0 := GW.all W, F0 := fun _ _ => False, Fo0 := fun _ => False, glob := gl, N := 0 }
theorem law_inv {gl : Glob} {W : World} (hgl : ∀ g t y, gl g = some ⟨t, y⟩ → globOK t y (GW.all W) g) : HInv (lawC gl W) (fun _ => .none) (fun _ => none) (GW.all W) := {
 heap := ⟨fun _ _ => rfl, fun _ h => (h rfl).elim, fun _ _ h => (by cases h), fun _ _ h => (by cases h), fun _ _ _ _ _ h => (by cases h), fun _ _ _ _ _ h => (by cases h), fun _ _ h => h, fun _ ⟨es, c, e⟩ => ⟨_, e, .inl ⟨es, c, rfl⟩⟩⟩
 step := Step.refl _ _ _
 own := fun _ _ h => by cases h
 owno := fun _ _ h => by cases h
 glob := hgl }
theorem law_calls {P : Program} {gl : Glob} {f : FuncId} {S : Spec} (hS : SpecOK P gl f S) {W : World} {args : List Value} {x : SDat S.ins} (hpre : S.pre x) (hnn : nn S.ins = 0) (hargs : satT (intoA (fun k => k) S.ins x 0) (fun _ => none) (GW.all W) args)
    (hgl : ∀ g t y, gl g = some ⟨t, y⟩ → globOK t y (GW.all W) g) :
    ∃ A, S.alts[S.sel x]? = some A ∧ Calls P f args.toArray W (fun e W' => ∃ v, e = .returned v ∧ ∃ β' G', G'.w = W' ∧ Step (fun _ _ => False) (fun _ => False) (GW.all W) G' ∧ sat (resA A.outs (A.res x) 0) β' G' v) := by
 obtain ⟨A, hA, hcall⟩ := hS.2 x hpre
 refine ⟨A, hA, ?_⟩
 refine Calls.mono (hcall (lawC gl W) (fun _ => none) (GW.all W) args rfl (fun _ => trivial) (by rw [canon_none hnn]; exact law_inv hgl) hargs) fun e w' hr => ?_
 cases e with
 | panicked _ => exact hr.elim
 | outgrown => exact hr.elim
 | returned v =>
  obtain ⟨hp', β', G', L, vs, nx', y, os, ex', nx1', z, ms, ey, nx2, rfl, H2, lb, lg, rfl, hL, hfr', hfo, hfb, hnd2, hy, hz, hid⟩ := hr.ex
  obtain ⟨βx, Hx, lx, car, _⟩ := take_in H2 hfr' hfo
  obtain ⟨_, _, c3, _⟩ := car.go (fun k => 0 + k) 0 (fun k => (os[k]?).bind βx) (fun k h hk => by simp [hk])
  refine ⟨resV vs, rfl, (fun k => (os[k]?).bind βx), G', rfl, H2.step, ?_⟩
  rw [← hy]
  exact resV_sat (s := A.outs) hfo hL (m := 0) (c3 vs hL)
section
variable {H : Type} {enc : TypeId × Value → H} {P : Program}
theorem step_same {W : World} {G' : GW} (h : Step (fun _ _ => False) (fun _ => False) (GW.all W) G') : ∀ b, b < W.heap.size → G'.w.heap[b]? = W.heap[b]? :=
 fun b hb => h.blk b hb (fun _ hf => hf) (fun hf => hf)
theorem keptBut_of_same {W W' : World} (ho : W'.os = W.os) (hu : W'.output = W.output) (hb : ∀ b, b < W.heap.size → W'.heap[b]? = W.heap[b]?) (may : MemPlace → Prop) : W.keptBut W' may := by
 refine ⟨ho, hu, fun i hi => ?_⟩
 rw [hb i hi]
 cases h : W.heap[i]? with
 | none => simp
 | some o => cases o <;> simp
theorem trodAll_carry {W W' : World} {base : Nat} {spare : Nat → Bool} {held : Bool} : ∀ {ts : List TypeId} {vs : List Value} {ds : List (DataW H)} {ps : List MemPlace}, DataW.TrodAll enc P W base spare held ts vs ds ps → (∀ p ∈ ps, W.sameAt W' p) → DataW.TrodAll enc P W' base spare held ts vs ds ps
 | [], [], [], _, h, _ => h
 | _ :: _, _ :: _, _ :: _, _, ⟨p, q, ⟨n, h1⟩, h2, e⟩, hs => ⟨p, q, ⟨n, DataW.trod_carry n _ _ _ h1 (fun x hx => hs x (by rw [e]; exact List.mem_append_left _ hx))⟩, trodAll_carry h2 (fun x hx => hs x (by rw [e]; exact List.mem_append_right _ hx)), e⟩
theorem law_post (hl : laidOutB P = true) (hm : mapsRowed P = true) (hfull : ((List.range P.types.size).all fun t => match P.underlying t with | some (.slice e) => decide (0 < P.cellsOf e) | _ => true) = true)
    {fn : Func} {s : ChangeSpec} {W : World} {args : Array Value} {ds gs : List (DataW H)} {before : List MemPlace} {apart fresh handsOn : Bool} (hW : DataW.Whole enc P fn.params.toList s.vars apart W args.toList ds gs before) (hvars : s.vars = []) (hty : ∀ t ∈ fn.params.toList, t < P.types.size) {tb : TypeId} (hres : fn.resultTypes = #[tb]) (htb : P.underlying tb = some .bool)
    (hfn : s.fn H ds = { results := [.lit (.bool true)], args := ds }) {G' : GW} (h : Step (fun _ _ => False) (fun _ => False) (GW.all W) G') : s.post enc P fn apart fresh handsOn false W args (.bool true) G'.w := by
 have hb := step_same h
 have hW' := hW
 obtain ⟨p, q, hA, hV, rfl, _, _⟩ := hW
 rw [hvars] at hV
 have hgs : gs = [] ∧ q = [] := by
  cases gs with
  | nil => exact ⟨rfl, hV⟩
  | cons g r => exact hV.elim
 obtain ⟨rfl, rfl⟩ := hgs
 have hlt : ∀ x ∈ p, x.block < W.heap.size := DataW.TrodAll.lt hA
 have hsame : ∀ x ∈ p, W.sameAt G'.w x := fun x hx => by
  cases x with
  | cell b o =>
   show G'.w.cell? ⟨b, o, none⟩ = W.cell? ⟨b, o, none⟩
   unfold World.cell?
   rw [hb b (hlt _ hx)]
  | map b => exact hb b (hlt _ hx)
 have hA2 := trodAll_carry hA hsame
 refine ⟨ds, [], p ++ [], [], p, [], hW', ?_, ?_, ?_, keptBut_of_same h.os h.output hb _, fun h => by cases h⟩
 · rw [List.append_nil, hfn, hres]
   show DataW.TrodAll enc P G'.w _ _ _ [tb] [.bool true] [.lit (.bool true)] []
   exact ⟨[], [], ⟨1, by simp [DataW.trod, htb, Value.cells]⟩, rfl, rfl⟩
 · rw [List.append_nil, hfn]
   exact DataW.TrodAll.respare (kids_rows hl hm) (slices_full_of P hfull) hty hA2 (fun x hx => by simpa using hlt x hx)
 · rw [List.append_nil, hfn, hvars]; rfl
end
end Go.Gv

/- Words for the use of the generator: contracts in a list, marks of a walk, small lemmas on lists and numbers. -/
namespace Go.Gv
open Go
theorem gv_more {p : Prop} (h : p) : More p := ⟨h⟩
def Fl : List (Nat × Spec) → Specs
 | [], _ => []
 | (m, S) :: r, n => match Nat.beq m n with
  | true => S :: Fl r n
  | false => Fl r n
theorem SpecsOK.nil {P : Program} {gl : Glob} {nz : Bool} : SpecsOK P gl (Fl []) nz := fun _ _ h => by cases h
theorem SpecsOK.cons {P : Program} {gl : Glob} {m : Nat} {S : Spec} {r : List (Nat × Spec)} {nz : Bool} (h : SpecOK P gl m S) (k : SpecsOK P gl (Fl r) nz) (hz : S.noisy = true → nz = true := by first | exact fun _ => rfl | exact fun h => Bool.noConfusion (show false = true from h)) : SpecsOK P gl (Fl ((m, S) :: r)) nz := fun g T hT => by
 unfold Fl at hT
 split at hT
 · rename_i e
   rcases List.mem_cons.1 hT with rfl | hT
   · rw [← Nat.eq_of_beq_eq_true e]; exact ⟨h, hz⟩
   · exact k g T hT
 · exact k g T hT
structure FnOK (P : Program) (f : Nat) (fn : Func) (n : Nat) : Prop where
 at' : P.funcs[f]? = some fn
 body : fn.body.isSome = true
 name : (fn.name == "runtime.NumGoroutine") = false
 tmps : fn.ntmps = n
theorem LateOK.triv {P : Program} {c : Cf} (h1 : c.eat = fun _ _ _ _ => False) (h2 : c.L = fun _ => []) (h3 : c.I = fun _ => []) : LateOK P c :=
 ⟨fun ts D ys E h => by rw [h1] at h; exact h.elim, fun g S h => (by rw [h2] at h; cases h), fun g S h => (by rw [h3] at h; cases h)⟩
theorem mk_ok {P : Program} {c : Cf} {f : Nat} {fn : Func} {S : Spec} (hE : c.E.ok P = true) (hmix : P.follows .mixedOrders = true) (hfn : FnOK P f fn c.N) (hlen : shLen S.ins ≤ c.N) (hS : SpecsOK P c.gl c.F c.nz) (hsel : ∀ x, S.pre x → S.sel x < S.alts.length)
    (hg : ∀ x, S.pre x → shOK S.ins x → fnGoal c fn S x) (hnz : c.nz = true → S.noisy = true := by first | exact fun _ => rfl | exact fun h => Bool.noConfusion (show false = true from h))  (hL : LateOK P c := by exact LateOK.triv rfl rfl rfl) : SpecOK P c.gl f S :=
 spec_ok hE hS hL hmix hfn.at' hfn.body hfn.name hfn.tmps hlen hsel hg hnz
def Ll : List (Nat × LSpec) → Nat → List LSpec
 | [], _ => []
 | (m, S) :: r, n => match Nat.beq m n with
  | true => S :: Ll r n
  | false => Ll r n
def Il : List (Nat × ItSpec) → Nat → List ItSpec
 | [], _ => []
 | (m, S) :: r, n => match Nat.beq m n with
  | true => S :: Il r n
  | false => Il r n
def LsOK (P : Program) (gl : Glob) (L : Nat → List LSpec) (nz : Bool) : Prop := ∀ g S, S ∈ L g → LSpecOK P gl g S ∧ (S.noisy = true → nz = true)
def IsOK (P : Program) (gl : Glob) (L : Nat → List ItSpec) (nz : Bool) : Prop := ∀ g S, S ∈ L g → ItOK P gl g S ∧ (S.noisy = true → nz = true)
theorem LsOK.nil {P : Program} {gl : Glob} {nz : Bool} : LsOK P gl (Ll []) nz := fun _ _ h => by cases h
theorem IsOK.nil {P : Program} {gl : Glob} {nz : Bool} : IsOK P gl (Il []) nz := fun _ _ h => by cases h
theorem LsOK.cons {P : Program} {gl : Glob} {m : Nat} {S : LSpec} {r : List (Nat × LSpec)} {nz : Bool} (h : LSpecOK P gl m S) (k : LsOK P gl (Ll r) nz) (hz : S.noisy = true → nz = true := by first | exact fun _ => rfl | exact fun h => Bool.noConfusion (show false = true from h)) : LsOK P gl (Ll ((m, S) :: r)) nz := fun g T hT => by
 unfold Ll at hT
 split at hT
 · rename_i e
   rcases List.mem_cons.1 hT with rfl | hT
   · rw [← Nat.eq_of_beq_eq_true e]; exact ⟨h, hz⟩
   · exact k g T hT
 · exact k g T hT
theorem IsOK.cons {P : Program} {gl : Glob} {m : Nat} {S : ItSpec} {r : List (Nat × ItSpec)} {nz : Bool} (h : ItOK P gl m S) (k : IsOK P gl (Il r) nz) (hz : S.noisy = true → nz = true := by first | exact fun _ => rfl | exact fun h => Bool.noConfusion (show false = true from h)) : IsOK P gl (Il ((m, S) :: r)) nz := fun g T hT => by
 unfold Il at hT
 split at hT
 · rename_i e
   rcases List.mem_cons.1 hT with rfl | hT
   · rw [← Nat.eq_of_beq_eq_true e]; exact ⟨h, hz⟩
   · exact k g T hT
 · exact k g T hT
theorem LateOK.of {P : Program} {c : Cf} (h1 : c.eat = Eats P) (h2 : LsOK P c.gl c.L c.nz) (h3 : IsOK P c.gl c.I c.nz) : LateOK P c := ⟨fun _ _ _ _ _ => h1, h2, h3⟩
theorem mk_late {P : Program} {c : Cf} {f : Nat} {fn : Func} {S : LSpec} (hE : c.E.ok P = true) (hmix : P.follows .mixedOrders = true) (hfn : FnOK P f fn c.N) (hlen : shLen S.ins ≤ c.N) (hS : SpecsOK P c.gl c.F c.nz) (hL : LateOK P c)
    (hg : ∀ x, S.pre x → shOK S.ins x → fnGoalL c fn S x) (hnz : c.nz = true → S.noisy = true := by first | exact fun _ => rfl | exact fun h => Bool.noConfusion (show false = true from h)) : LSpecOK P c.gl f S :=
 lspec_ok hE hS hL hmix hfn.at' hfn.body hfn.name hfn.tmps hlen hg hnz
theorem mk_it {P : Program} {c : Cf} {f : Nat} {fn : Func} {S : ItSpec} (hE : c.E.ok P = true) (hmix : P.follows .mixedOrders = true) (hfn : FnOK P f fn c.N) (hlen : shLen S.caps + 1 ≤ c.N) (hS : SpecsOK P c.gl c.F c.nz) (hL : LateOK P c) (heat : c.eat = Eats P) (hres : fn.results.toList = [])
    (hg : ∀ x, S.pre x.2 → x.1.1 = S.seq x.2 → c.eat S.ts x.1.2.2 x.1.1 x.1.2.1 → shOK (.cons (.ob (.log S.ts)) S.caps) x → fnGoalI c fn S x) (hnz : c.nz = true → S.noisy = true := by first | exact fun _ => rfl | exact fun h => Bool.noConfusion (show false = true from h)) : ItOK P c.gl f S :=
 it_ok hE hS hL hmix hfn.at' hfn.body hfn.name hfn.tmps hlen hres heat hg hnz
structure Hd (p : Prop) : Prop where
 out : p
def datLn : (t : Ty) → Dat t → Prop
 | .int k, n => inRng k n
 | .str, s => s.length ≤ maxLen
 | .sl _, xs => List.length xs ≤ maxLen
 | .cs t r, x => datLn t x.1 ∧ datLn r x.2
 | .st fs, x => datLn fs x
 | .arr n _, xs => List.length xs = n
 | _, _ => True
theorem datLn_of : ∀ (t : Ty) {x : Dat t}, datOK t x → datLn t x
 | .int _, _, h => h
 | .bool, _, _ => trivial
 | .str, _, h => h
 | .sl _, _, h => h.1
 | .nl, _, _ => trivial
 | .cs t r, _, h => ⟨datLn_of t h.1, datLn_of r h.2⟩
 | .st fs, _, h => datLn_of fs (by unfold datOK at h; exact h)
 | .arr _ _, _, h => h.1
 | .mp _ _, _, _ => trivial
 | .pt _, _, _ => trivial
 | .ot _, _, _ => trivial
 | .fn, _, _ => trivial
 | .ni, _, _ => trivial
 | .ifc _ _ _, _, _ => trivial
def shLn : (s : Sh) → SDat s → Prop
 | .d t, x => datLn t x
 | .row t, xs => datLn (.sl t) xs
 | .take t, xs => datLn (.sl t) xs
 | .spare t, xs => datLn (.sl t) xs
 | .map _ _, _ => True
 | .ob _, _ => True
 | .box cs, x => shLn cs x
 | .clos _ cs, x => shLn cs x
 | .agg cs, x => shLn cs x
 | .self _ cs, x => match lstS cs with
  | true => shLn cs x
  | false => True
 | .nilp, _ => True
 | .nils, _ => True
 | .nil, _ => True
 | .cons a b, x => shLn a x.1 ∧ shLn b x.2
theorem shLn_of : ∀ (s : Sh) {x : SDat s}, shOK s x → shLn s x
 | .d t, _, h => datLn_of t h
 | .row t, _, h => datLn_of (.sl t) h
 | .take t, _, h => datLn_of (.sl t) h
 | .spare t, _, h => datLn_of (.sl t) h
 | .map _ _, _, _ => trivial
 | .ob _, _, _ => trivial
 | .box cs, _, h => shLn_of cs h
 | .clos _ cs, _, h => shLn_of cs h
 | .agg cs, _, h => shLn_of cs h
 | .self _ cs, x, h => by
  unfold shOK at h
  unfold shLn
  split
  · rename_i hl; rw [hl] at h; exact shLn_of cs h
  · trivial
 | .nilp, _, _ => trivial
 | .nils, _, _ => trivial
 | .nil, _, _ => trivial
 | .cons a b, _, h => ⟨shLn_of a h.1, shLn_of b h.2⟩
theorem bF {p : Prop} (h : ¬ p) : false = boolOf p := by rw [boolOf_false.2 h]
theorem bT {p : Prop} (h : p) : true = boolOf p := by rw [boolOf_true.2 h]
theorem bC {p q : Prop} (h : p ↔ q) : boolOf p = boolOf q := by rw [show p = q from propext h]
theorem nil_ok {P : Program} {c : Cf} {f : Nat} {fn : Func} {t : Ty} {S : Spec} (hE : c.E.ok P = true) (hmix : P.follows .mixedOrders = true) (hfn : FnOK P f fn c.N) (hS : SpecsOK P c.gl c.F c.nz) (hsel : ∀ x, S.pre x → S.sel x < S.alts.length) (hins : S.ins = .cons (.d (.sl t)) .nil) (hN : 0 < c.N)
    (hg : ∀ (x : SDat S.ins) (xs : List (Dat t)), HEq x (xs, ()) → S.pre x → shOK S.ins x → ∀ X : AP, ((X = .dat (.sl t) xs ∧ 0 < xs.length) ∨ (xs = [] ∧ X = .val (.slice none 0 0)) ∨ ∃ a k, xs = [] ∧ k ≤ maxLen ∧ (0 < k → a.spot = none) ∧ X = .val (.slice (some a) 0 k)) →
     wpA c (bodyOf fn) { sl := [(0, ⟨[], X⟩)], hp := [], nx := 0 } (fun e rs => match e with
      | .ret => retA c.E S x fn.results.toList rs
      | .normal => retA c.E S x fn.results.toList rs
      | _ => False)) (hnz : c.nz = true → S.noisy = true := by first | exact fun _ => rfl | exact fun h => Bool.noConfusion (show false = true from h))  (hL : LateOK P c := by exact LateOK.triv rfl rfl rfl) : SpecOK P c.gl f S := by
 obtain ⟨ins, pre, sel, alts, ro, noisy⟩ := S
 dsimp only at hins
 subst hins
 refine spec_ok_gen hE hS hL hmix hfn.at' hfn.body hfn.name hfn.tmps hN hsel (hnz := hnz) fun x hpre hok β G args hargs => ?_
 obtain ⟨xs, ⟨⟩⟩ := x
 have key : ∃ v, args = [v] ∧ RepV (.sl t) xs G v := by
  simp only [intoA] at hargs
  unfold satT at hargs
  obtain ⟨v, l, rfl, h1, h2⟩ := hargs
  unfold satT at h2
  subst h2
  unfold sat at h1
  exact ⟨v, rfl, h1⟩
 obtain ⟨v, rfl, hr⟩ := key
 have hr1 := hr.to_one rfl
 unfold Rep at hr1
 obtain ⟨base, cap, e, h1, h2, h3, h4⟩ := hr1
 simp only [List.cons.injEq, and_true] at e
 have fin : ∀ X : AP, sat X β G v → ∀ s p, lookN [(0, (⟨[], X⟩ : PA))] s = some p → p.path = [] ∧ ∃ v', [v][s]? = some v' ∧ sat p.ap β G v' := fun X hX s p hp => by
  rw [lookN_cons] at hp
  split at hp
  · rename_i hs
    simp only [Option.some.injEq] at hp
    subst hp; subst hs
    exact ⟨rfl, v, rfl, hX⟩
  · cases hp
 have go := fun X h => hg (xs, ()) xs HEq.rfl hpre hok X h
 by_cases hx : 0 < List.length xs
 · exact ⟨[(0, ⟨[], .dat (.sl t) xs⟩)], fin _ (by unfold sat; exact hr), go _ (.inl ⟨rfl, hx⟩)⟩
 · have hx0 : xs = [] := List.eq_nil_of_length_eq_zero (by omega)
   subst hx0
   cases base with
   | none =>
    have hc : cap = 0 := h3 rfl
    subst hc
    exact ⟨[(0, ⟨[], .val (.slice none 0 0)⟩)], fin _ (by unfold sat; exact e), go _ (.inr (.inl ⟨rfl, rfl⟩))⟩
   | some a =>
    exact ⟨[(0, ⟨[], .val (.slice (some a) 0 cap)⟩)], fin _ (by unfold sat; exact e), go _ (.inr (.inr ⟨a, cap, rfl, h2, (h4 a rfl).1, rfl⟩))⟩
theorem getD_ok {α : Type} {l : List α} {k : Nat} (d : α) (h : k < l.length) : List.getD l k d = l[k] := by
 rw [List.getD_eq_getElem?_getD, List.getElem?_eq_getElem h]; rfl
theorem take_eq_step {α : Type} {a b : List α} {k : Nat} {d : α} (h : a.take k = b.take k) (ha : k < a.length) (hb : k < b.length) (he : List.getD a k d = List.getD b k d) : a.take (k + 1) = b.take (k + 1) := by
 rw [getD_ok d ha, getD_ok d hb] at he
 rw [List.take_succ_eq_append_getElem ha, List.take_succ_eq_append_getElem hb, h, he]
theorem take_eq_end {α : Type} {a b : List α} {k : Nat} (h : a.take k = b.take k) (ha : a.length ≤ k) (hb : b.length ≤ k) : a = b := by
 rwa [List.take_of_length_le ha, List.take_of_length_le hb] at h
theorem all_step {α : Type} {p : α → Prop} {l : List α} {k : Nat} {d : α} (h : ∀ x ∈ l.take k, p x) (hk : k < l.length) (hp : p (List.getD l k d)) : ∀ x ∈ l.take (k + 1), p x := by
 rw [getD_ok d hk] at hp
 intro x hx
 rw [List.take_succ_eq_append_getElem hk, List.mem_append] at hx
 rcases hx with hx | hx
 · exact h x hx
 · simp at hx; subst hx; exact hp
theorem all_end {α : Type} {p : α → Prop} {l : List α} {k : Nat} (h : ∀ x ∈ l.take k, p x) (hk : l.length ≤ k) : ∀ x ∈ l, p x := by rwa [List.take_of_length_le hk] at h
theorem getD_mem {α : Type} {l : List α} {k : Nat} {d : α} (hk : k < l.length) : List.getD l k d ∈ l := by rw [getD_ok d hk]; exact List.getElem_mem hk
theorem rep1 {α : Type} (d x : α) : (List.replicate 1 d).set 0 x = [x] := rfl
theorem rep2 {α : Type} (d x y : α) : ((List.replicate 2 d).set 0 x).set 1 y = [x, y] := rfl
theorem rep3 {α : Type} (d x y z : α) : (((List.replicate 3 d).set 0 x).set 1 y).set 2 z = [x, y, z] := rfl
def selB (b : Bool) : Nat := if b = true then 1 else 0
theorem selB_0 {b : Bool} : selB b = 0 ↔ b = false := by cases b <;> simp [selB]
theorem selB_1 {b : Bool} : selB b = 1 ↔ b = true := by cases b <;> simp [selB]
theorem selB_lt (b : Bool) : selB b < 2 := by cases b <;> simp [selB]
theorem boolOf_eq_false {p : Prop} : boolOf p = false ↔ ¬ p := boolOf_false
theorem preA_t {ins : Sh} {p : Prop} {x : SDat ins} {hp : Nat → HObj} {ns : List Nat} {nx1 : Nat} (h : p) (k : sameP hp (intoH (nmBack (idR (nn ins) 0) ns nx1) ins x 0 [])) : preA true p x hp ns nx1 := ⟨h, k⟩
theorem preA_f {ins : Sh} {p : Prop} {x : SDat ins} {hp : Nat → HObj} {ns : List Nat} {nx1 : Nat} : preA false p x hp ns nx1 = p := rfl
theorem mget_none {α β : Type} [DecidableEq α] {x : α} : ∀ {l : List (α × β)}, mget l x = none ↔ ∀ e ∈ l, e.1 ≠ x
 | [] => by simp [mget]
 | (k, v) :: r => by
  have := mget_none (x := x) (l := r)
  unfold mget
  by_cases h : k = x
  · rw [if_pos h]; simp [h]
  · rw [if_neg h, this]; simp [h]
theorem mput_none {α β : Type} [DecidableEq α] {x : α} {y : β} : ∀ {l : List (α × β)}, mget l x = none → mput l x y = l ++ [(x, y)]
 | [], _ => rfl
 | (k, v) :: r, h => by
  unfold mget at h
  by_cases e : k = x
  · rw [if_pos e] at h; cases h
  · rw [if_neg e] at h
    unfold mput
    rw [if_neg e, mput_none h]; rfl
theorem mget_mput {α β : Type} [DecidableEq α] {x z : α} {y : β} : ∀ {l : List (α × β)}, mget (mput l x y) z = if x = z then some y else mget l z
 | [] => by simp [mput, mget]
 | (k, v) :: r => by
  unfold mput
  by_cases e : k = x
  · subst e
    rw [if_pos rfl]
    unfold mget
    by_cases e2 : k = z
    · rw [if_pos e2, if_pos e2]
    · rw [if_neg e2, if_neg e2, if_neg e2]
  · rw [if_neg e]
    unfold mget
    by_cases e2 : k = z
    · have : ¬ x = z := fun h => e (by rw [e2, h])
      rw [if_pos e2, if_neg this, if_pos e2]
    · rw [if_neg e2, mget_mput (l := r), if_neg e2]
theorem mget_some {α β : Type} [DecidableEq α] {x : α} {y : β} : ∀ {l : List (α × β)}, mget l x = some y → (x, y) ∈ l
 | (k, v) :: r, h => by
  unfold mget at h
  by_cases e : k = x
  · rw [if_pos e] at h
    cases h; rw [e]; exact List.mem_cons_self
  · rw [if_neg e] at h
    exact List.mem_cons_of_mem _ (mget_some h)
theorem lt_step {p : Nat → Prop} {k : Nat} (h : ∀ i, i < k → p i) (hk : p k) : ∀ i, i < k + 1 → p i := fun i hi => by
 by_cases e : i < k
 · exact h i e
 · have : i = k := by omega
   rw [this]; exact hk
end Go.Gv

/- Step by step: for each piece of code a lemma, so that goals stay small and the kernel compares little. -/
namespace Go.Gv
open Go
def thenK (c : Cf) (b : Code) (K : Ex → RS → Prop) : Ex → RS → Prop := fun e rs' => match e with
 | .normal => wpA c b rs' K
 | e => K e rs'
def blockK (id : Nat) (K : Ex → RS → Prop) : Ex → RS → Prop := fun e rs' => match e with
 | .exit i => match Nat.beq i id with
  | true => K .normal rs'
  | false => K (.exit i) rs'
 | e => K e rs'
def blockR (id : Nat) (K : Ex → RS → Prop) : Ex → RS → Prop := fun e rs' => match e with
 | .exit i => match Nat.beq i id with
  | true => restK true (K .normal) rs'
  | false => K (.exit i) rs'
 | e => K e rs'
def loopK (S B : List (Nat × Sh)) (inv : SDat (shL S B) → Prop) (μ : SDat (shL S B) → Nat) (x : SDat (shL S B)) (nx : Nat) (l : List Nat) (K : Ex → RS → Prop) : Ex → RS → Prop := fun e rs' => match e with
 | .normal => match loopIn S B rs', wrOK (keysS B) nx rs'.wr with
  | some ⟨x', ns', _, _⟩, true => match wrOK (keysS B) nx ns' with
   | true => inv x' ∧ μ x' < μ x
   | false => False
  | _, _ => False
 | e => K e (addWr l rs')
def retK (E : Env) (S : Spec) (x : SDat S.ins) (rl : List ResultVar) : Ex → RS → Prop := fun e rs => match e with
 | .ret => retA E S x rl rs
 | .normal => retA E S x rl rs
 | _ => False
def condK (c : Cf) (X : AP) (a b : Code) (rs : RS) (K : Ex → RS → Prop) : Prop := match X with
 | .blit true => wpA c a rs K
 | .blit false => wpA c b rs K
 | X => match propOf X with
  | some p => (p → More (wpA c a rs K)) ∧ (¬ p → More (wpA c b rs K))
  | none => False
def headK (rs : RS) (Q : RS → Prop) : Prop := ∀ K' : RS → Prop, (∀ rs', Q rs' → K' rs') → forceRS rs K'
noncomputable def loopG (c : Cf) (S B : List (Nat × Sh)) (inv : SDat (shL S B) → Prop) (μ : SDat (shL S B) → Nat) (b : Code) (rs : RS) (K : Ex → RS → Prop) : Prop :=
 match loopIn S B rs with
 | some ⟨x0, ns, _, _⟩ => inv x0 ∧ ∀ x, inv x → More (headK (loopHead S B (dsts b []) rs ns x) (fun rs' => wpA c b rs' (loopK S B inv μ x rs.nx (keysS B ++ ns ++ rs.wr) K)))
 | none => False
section
variable {c : Cf} {rs : RS} {K : Ex → RS → Prop} {a b : Code}
theorem w_seq (h : wpA c a rs (thenK c b K)) : wpA c (.seq a b) rs K := h
theorem w_skip (h : K .normal rs) : wpA c .skip rs K := h
theorem w_label {l : Nat} (h : K .normal rs) : wpA c (.label l) rs K := h
theorem w_exit {i : Nat} (h : K (.exit i) rs) : wpA c (.exit i) rs K := h
theorem w_ret (h : K .ret rs) : wpA c .ret rs K := h
theorem w_block {id : Nat} (hb : hasLp b = false) (h : wpA c b rs (blockK id K)) : wpA c (.block id b) rs K := by
 unfold wpA
 have key : ∀ F : Ex → RS → Prop, F = blockK id K → wpA c b rs F := fun F e => e ▸ h
 refine key _ ?_
 funext e rs'
 cases e with
 | exit i =>
  unfold blockK
  dsimp only
  rw [hb]; rfl
 | _ => rfl
theorem w_blockR {id : Nat} (h : wpA c (.loop b) rs (blockR id K)) : wpA c (.block id (.loop b)) rs K := h
theorem blockR_n {id : Nat} (h : K .normal rs) : blockR id K .normal rs := h
theorem blockR_r {id : Nat} (h : K .ret rs) : blockR id K .ret rs := h
theorem blockR_x {id : Nat} (h : ∀ K' : RS → Prop, (∀ rs', K .normal rs' → K' rs') → restK true K' rs) : blockR id K (.exit id) rs := by
 unfold blockR
 simp only [Nat.beq_refl]
 exact h _ fun _ h => h
theorem blockR_y {id i : Nat} (hb : Nat.beq i id = false) (h : K (.exit i) rs) : blockR id K (.exit i) rs := by
 unfold blockR
 simp only [hb]
 exact h
theorem w_cond {x : Operand} (h : condK c (opA c.gl rs.slf [] x) a b rs K) : wpA c (.cond x a b) rs K := h
theorem w_region {id : Nat} {ops : Array Oper} {draw : Bool} (h : ∀ K' : RS → Prop, (∀ rs', K .normal rs' → K' rs') → regA c ops.toList draw rs K') : wpA c (.region id ops draw) rs K := h _ (fun _ h => h)
theorem condK_t (h : wpA c a rs K) : condK c (.blit true) a b rs K := h
theorem condK_f (h : wpA c b rs K) : condK c (.blit false) a b rs K := h
theorem condK_p {p : Prop} (h1 : p → More (wpA c a rs K)) (h2 : ¬ p → More (wpA c b rs K)) : condK c (.dec p) a b rs K := ⟨h1, h2⟩
theorem condK_b {x : Bool} (h1 : x = true → More (wpA c a rs K)) (h2 : ¬ x = true → More (wpA c b rs K)) : condK c (.dat .bool x) a b rs K := ⟨h1, h2⟩
theorem thenK_n (h : wpA c b rs K) : thenK c b K .normal rs := h
theorem thenK_e {i : Nat} (h : K (.exit i) rs) : thenK c b K (.exit i) rs := h
theorem thenK_r (h : K .ret rs) : thenK c b K .ret rs := h
theorem blockK_n {id : Nat} (h : K .normal rs) : blockK id K .normal rs := h
theorem blockK_r {id : Nat} (h : K .ret rs) : blockK id K .ret rs := h
theorem blockK_x {id : Nat} (h : K .normal rs) : blockK id K (.exit id) rs := by
 unfold blockK
 simp only [Nat.beq_refl]
 exact h
theorem blockK_y {id i : Nat} (hb : Nat.beq i id = false) (h : K (.exit i) rs) : blockK id K (.exit i) rs := by
 unfold blockK
 simp only [hb]
 exact h
theorem w_head {Q : RS → Prop} (h : ∀ K' : RS → Prop, (∀ rs', Q rs' → K' rs') → forceRS rs K') : headK rs Q := h
theorem w_loop (S B : List (Nat × Sh)) (inv : SDat (shL S B) → Prop) (μ : SDat (shL S B) → Nat) (h : loopG c S B inv μ b rs K) : wpA c (.loop b) rs K := by
 unfold wpA
 refine ⟨S, B, inv, μ, ?_⟩
 unfold loopG at h
 split at h
 · rename_i x0 ns ex n hin
   rw [hin]
   exact ⟨h.1, fun x hx => ⟨(h.2 x hx).out _ fun _ h => h⟩⟩
 · exact h.elim
theorem loopK_at {S B : List (Nat × Sh)} {inv : SDat (shL S B) → Prop} {μ : SDat (shL S B) → Nat} {x : SDat (shL S B)} {nx : Nat} {l : List Nat} (h : loopK S B inv μ x nx l K .normal rs) : loopK S B inv μ x nx l K .normal rs := h
theorem loopK_e {S B : List (Nat × Sh)} {inv : SDat (shL S B) → Prop} {μ : SDat (shL S B) → Nat} {x : SDat (shL S B)} {nx0 : Nat} {l : List Nat} {i : Nat} {sl : List (Nat × PA)} {hp : List (Nat × HObj)} {nx : Nat} {gd : List (Nat × (Prop × Path))} {vc : List Prop} {tr : List (List Nat × List Nat)} {wr : List Nat}
    (h : K (.exit i) ⟨sl, hp, nx, gd, vc, tr, wr ++ l⟩) : loopK S B inv μ x nx0 l K (.exit i) ⟨sl, hp, nx, gd, vc, tr, wr⟩ := h
theorem loopK_r {S B : List (Nat × Sh)} {inv : SDat (shL S B) → Prop} {μ : SDat (shL S B) → Nat} {x : SDat (shL S B)} {nx0 : Nat} {l : List Nat} {sl : List (Nat × PA)} {hp : List (Nat × HObj)} {nx : Nat} {gd : List (Nat × (Prop × Path))} {vc : List Prop} {tr : List (List Nat × List Nat)} {wr : List Nat}
    (h : K .ret ⟨sl, hp, nx, gd, vc, tr, wr ++ l⟩) : loopK S B inv μ x nx0 l K .ret ⟨sl, hp, nx, gd, vc, tr, wr⟩ := h
theorem retK_r {E : Env} {S : Spec} {x : SDat S.ins} {rl : List ResultVar} (h : retA E S x rl rs) : retK E S x rl .ret rs := h
theorem retK_n {E : Env} {S : Spec} {x : SDat S.ins} {rl : List ResultVar} (h : retA E S x rl rs) : retK E S x rl .normal rs := h
theorem fn_goal {f : Func} {S : Spec} {x : SDat S.ins} (h : headK { sl := argsSl S.ins x, hp := intoH (fun k => k) S.ins x 0 [], nx := nn S.ins } (fun rs => wpA c (bodyOf f) rs (retK c.E S x f.results.toList))) : fnGoal c f S x := by
 unfold fnGoal
 refine h _ fun rs hrs => ?_
 revert hrs
 unfold retK
 exact id
theorem w_fn {code : Code} {E : Env} {S : Spec} {x : SDat S.ins} {rl : List ResultVar} (h : headK rs (fun rs' => wpA c code rs' (retK E S x rl))) : wpA c code rs (fun e rs => match e with
    | .ret => retA E S x rl rs
    | .normal => retA E S x rl rs
    | _ => False) := by
 have := h _ (fun _ h => h)
 rw [forceRS_eq] at this
 revert this
 unfold retK
 exact id
theorem rfA_n {W : RS → Prop} (h : W rs) : rfA W .normal rs := h
theorem rfK_at {B : List (Nat × Sh)} {rs0 : RS} {ns : List Nat} {inv : SDat (shB B) → Prop} (h : rfK B rs0 ns inv K .normal rs) : rfK B rs0 ns inv K .normal rs := h
theorem rfK_e {B : List (Nat × Sh)} {sl0 : List (Nat × PA)} {hp0 : List (Nat × HObj)} {nx0 : Nat} {gd0 : List (Nat × (Prop × Path))} {vc0 : List Prop} {tr0 : List (List Nat × List Nat)} {wr0 : List Nat} {ns : List Nat} {inv : SDat (shB B) → Prop} {i : Nat} {sl : List (Nat × PA)} {hp : List (Nat × HObj)} {nx : Nat} {gd : List (Nat × (Prop × Path))} {vc : List Prop} {tr : List (List Nat × List Nat)} {wr : List Nat}
    (h : K (.exit i) ⟨sl0, hp, nx, gd, vc, tr, wr ++ (keysS B ++ ns ++ wr0)⟩) : rfK B ⟨sl0, hp0, nx0, gd0, vc0, tr0, wr0⟩ ns inv K (.exit i) ⟨sl, hp, nx, gd, vc, tr, wr⟩ := h
theorem rfK_r {B : List (Nat × Sh)} {sl0 : List (Nat × PA)} {hp0 : List (Nat × HObj)} {nx0 : Nat} {gd0 : List (Nat × (Prop × Path))} {vc0 : List Prop} {tr0 : List (List Nat × List Nat)} {wr0 : List Nat} {ns : List Nat} {inv : SDat (shB B) → Prop} {sl : List (Nat × PA)} {hp : List (Nat × HObj)} {nx : Nat} {gd : List (Nat × (Prop × Path))} {vc : List Prop} {tr : List (List Nat × List Nat)} {wr : List Nat}
    (h : K .ret ⟨sl0, hp, nx, gd, vc, tr, wr ++ (keysS B ++ ns ++ wr0)⟩) : rfK B ⟨sl0, hp0, nx0, gd0, vc0, tr0, wr0⟩ ns inv K .ret ⟨sl, hp, nx, gd, vc, tr, wr⟩ := h
def rfE (l : List Nat) (K : Ex → RS → Prop) (rs : RS) : Prop := K .normal (addWr l rs)
theorem rfE_at {l : List Nat} {sl : List (Nat × PA)} {hp : List (Nat × HObj)} {nx : Nat} {gd : List (Nat × (Prop × Path))} {vc : List Prop} {tr : List (List Nat × List Nat)} {wr : List Nat} (h : K .normal ⟨sl, hp, nx, gd, vc, tr, wr ++ l⟩) : rfE l K ⟨sl, hp, nx, gd, vc, tr, wr⟩ := h
noncomputable def rfG (c : Cf) (asg b : Code) (ps : List Nat) (ts : List Ty) (zs : List (TDat ts)) (B : List (Nat × Sh)) (inv : List (TDat ts) → SDat (shB B) → Prop) (rs : RS) (K : Ex → RS → Prop) : Prop :=
 match loopIn [] B rs with
 | some ⟨x0, ns, _, _⟩ => inv zs x0.2 ∧ (∀ y r x, inv (y :: r) x → More (headK (roundHead ts B ps rs ns y ((), x)) (fun rsH => wpA c asg rsH (rfA (fun rs1 => wpA c b rs1 (rfK B rs ns (inv r) K)))))) ∧
     ∀ x, inv [] x → More (headK (loopHead [] B [] rs ns ((), x)) (rfE (keysS B ++ ns ++ rs.wr) K))
 | none => False
theorem w_rf {g : Operand} {ps : Array Tmp} {f : FuncId} {caps : AP} {l : List AP} {Is : List ItSpec} (I : ItSpec) {z : SDat I.caps} {nxz : Nat} (B : List (Nat × Sh)) (inv : List (TDat I.ts) → SDat (shB B) → Prop) (h1 : opA c.gl rs.slf [] g = .clos f caps) (h2 : unlistA caps = some l) (h3 : c.I f = I :: Is) (h4 : fromA rs.hpf I.caps (listA l) rs.nx = some ⟨z, [], [], nxz⟩)
    (h5 : psOK c.N ps.toList I.ts = true) (h6 : noRF a = true) (h7 : noRF b = true) (hp : I.pre z) (h : rfG c a b ps.toList I.ts (I.seq z) B inv rs K) : wpA c (.rangeFunc g ps a b) rs K := by
 unfold wpA
 rw [h1]
 dsimp only
 rw [h2, h3]
 dsimp only
 rw [h4, h5, h6, h7]
 refine ⟨hp, B, inv, ?_⟩
 unfold rfG at h
 split at h
 · rename_i x0 ns ex n hin
   rw [hin]
   exact ⟨h.1, fun y r x hx => ⟨(h.2.1 y r x hx).out _ fun _ h => h⟩, fun x hx => ⟨(h.2.2 x hx).out _ fun _ h => h⟩⟩
 · exact h.elim
def retLK (E : Env) (S : LSpec) (x : SDat S.ins) (rl : List ResultVar) : Ex → RS → Prop := fun e rs => match e with
 | .ret => retL E S x rl rs
 | .normal => retL E S x rl rs
 | _ => False
theorem retLK_r {E : Env} {S : LSpec} {x : SDat S.ins} {rl : List ResultVar} (h : retL E S x rl rs) : retLK E S x rl .ret rs := h
theorem retLK_n {E : Env} {S : LSpec} {x : SDat S.ins} {rl : List ResultVar} (h : retL E S x rl rs) : retLK E S x rl .normal rs := h
theorem w_chi {E : Env} {S : LSpec} {x : SDat S.ins} {rl : List ResultVar} (χ : S.X) (h1 : S.ok x χ) (h2 : retAlt E false True (S.alt χ) x rl rs) : retL E S x rl rs := ⟨χ, h1, h2⟩
theorem fnL_goal {f : Func} {S : LSpec} {x : SDat S.ins} (h : headK { sl := argsSl S.ins x, hp := intoH (fun k => k) S.ins x 0 [], nx := nn S.ins } (fun rs => wpA c (bodyOf f) rs (retLK c.E S x f.results.toList))) : fnGoalL c f S x := by
 unfold fnGoalL
 refine h _ fun rs hrs => ?_
 revert hrs
 unfold retLK
 exact id
noncomputable def retIK (c : Cf) (ts : List Ty) (D : Eater → Prop) : Ex → RS → Prop := fun e rs => match e with
 | .ret => retI c ts D rs
 | .normal => retI c ts D rs
 | _ => False
theorem retIK_r {ts : List Ty} {D : Eater → Prop} (h : retI c ts D rs) : retIK c ts D .ret rs := h
theorem retIK_n {ts : List Ty} {D : Eater → Prop} (h : retI c ts D rs) : retIK c ts D .normal rs := h
theorem w_it {ts : List Ty} {D : Eater → Prop} (h : Nat) (ys : List (TDat ts)) (E' : Eater) (h1 : rs.hpf h = .ob (.log ts) (ys, E', D)) (h2 : ys = [] ∧ c.eat ts D ys E') : retI c ts D rs := ⟨h, E', by rw [h1, h2.1], h2.1 ▸ h2.2⟩
theorem fnI_goal {f : Func} {S : ItSpec} {x : SDat (.cons (.ob (.log S.ts)) S.caps)} (h : headK { sl := argsSl (.cons (.ob (.log S.ts)) S.caps) x, hp := intoH (fun k => k) (.cons (.ob (.log S.ts)) S.caps) x 0 [], nx := nn (.cons (.ob (.log S.ts)) S.caps) } (fun rs => wpA c (bodyOf f) rs (retIK c S.ts x.1.2.2))) : fnGoalI c f S x := by
 unfold fnGoalI
 refine h _ fun rs hrs => ?_
 revert hrs
 unfold retIK
 exact id
theorem w_at (h : wpA c a rs K) : wpA c a rs K := h
end
end Go.Gv

/- Short words: steps of a walk found by their form, and facts put together. -/
namespace Go.Gv
open Go
class Stp (p : Prop) (q : outParam Prop) : Prop where
 out : q → p
theorem st {p q : Prop} [s : Stp p q] (h : q) : p := s.out h
class Stw (p : Prop) (q : outParam Prop) : Prop where
 out : q → p
theorem sw {p q : Prop} [s : Stw p q] (h : q) : p := s.out h
class Str (p : Prop) (q : outParam Prop) : Prop where
 out : q → p
theorem sr {p q : Prop} [s : Str p q] (h : q) : p := s.out h
theorem dsc {p : Prop} (h : p := by first | exact trivial | rfl | omega | exact boolOf_eq _ | (simp only [allP, lo, hi, room, true_and, and_true, implies_true]; done) | fail) : p := h
theorem sameP_t {p : Prop} (h : p := by first | ((repeat (first | exact trivial | ((conv => whnf); refine And.intro (by rfl) ?_))); done) | fail) : p := h
class NL (p : Prop) : Prop where
 out : True
theorem nl {p : Prop} [NL p] (h : p) : p := h
class An (p : Prop) (a b : outParam Prop) : Prop where
 out : a → b → p
theorem an {p a b : Prop} [s : An p a b] (x : a) (y : b) : p := s.out x y
instance {a b : Prop} : An (a ∧ b) a b := ⟨And.intro⟩
class Gm (p : Prop) (q : outParam Prop) : Prop where
 out : q → p
theorem gm {p q : Prop} [s : Gm p q] (h : q) : p := s.out h
instance {p : Prop} : Gm (More p) p := ⟨gv_more⟩
class Cd (p : Prop) (q : outParam Prop) : Prop where
 out : q → p
theorem cd {p q : Prop} [s : Cd p q] (h : q) : p := s.out h
section
variable {c : Cf} {rs : RS} {K : Ex → RS → Prop} {a b : Code}
instance {x : Operand} : Cd (wpA c (.cond x a b) rs K) (condK c (opA c.gl rs.slf [] x) a b rs K) := ⟨w_cond⟩
instance : NL (wpA c a rs K) := ⟨trivial⟩
instance {ins : Sh} {q : Nat → Alt ins → Prop} : NL (∃ (k : Nat) (A : Alt ins), q k A) := ⟨trivial⟩
instance : Stp (wpA c (.seq a b) rs K) (wpA c a rs (thenK c b K)) := ⟨w_seq⟩
instance : Stp (thenK c b K .normal rs) (wpA c b rs K) := ⟨thenK_n⟩
instance {id : Nat} {a b : Code} : Stp (wpA c (.block id (.seq a b)) rs K) (wpA c (.seq a b) rs (blockK id K)) := ⟨w_block rfl⟩
instance {id i : Nat} {o : Array Oper} {d : Bool} : Stp (wpA c (.block id (.region i o d)) rs K) (wpA c (.region i o d) rs (blockK id K)) := ⟨w_block rfl⟩
instance {id : Nat} {x : Operand} {a b : Code} : Stp (wpA c (.block id (.cond x a b)) rs K) (wpA c (.cond x a b) rs (blockK id K)) := ⟨w_block rfl⟩
instance {id i : Nat} {a : Code} : Stp (wpA c (.block id (.block i a)) rs K) (wpA c (.block i a) rs (blockK id K)) := ⟨w_block rfl⟩
instance {id i : Nat} : Stp (wpA c (.block id (.exit i)) rs K) (wpA c (.exit i) rs (blockK id K)) := ⟨w_block rfl⟩
instance {id : Nat} : Stp (wpA c (.block id .ret) rs K) (wpA c .ret rs (blockK id K)) := ⟨w_block rfl⟩
instance {id : Nat} : Stp (wpA c (.block id .skip) rs K) (wpA c .skip rs (blockK id K)) := ⟨w_block rfl⟩
instance {id i : Nat} : Stp (wpA c (.block id (.label i)) rs K) (wpA c (.label i) rs (blockK id K)) := ⟨w_block rfl⟩
instance {id : Nat} {g : Operand} {ps : Array Tmp} {a b : Code} : Stp (wpA c (.block id (.rangeFunc g ps a b)) rs K) (wpA c (.rangeFunc g ps a b) rs (blockK id K)) := ⟨w_block rfl⟩
instance {id : Nat} {b : Code} : Stp (wpA c (.block id (.loop b)) rs K) (wpA c (.loop b) rs (blockR id K)) := ⟨w_blockR⟩
instance {id : Nat} : Stp (blockR id K .normal rs) (K .normal rs) := ⟨blockR_n⟩
instance {id : Nat} : Stp (blockR id K .ret rs) (K .ret rs) := ⟨blockR_r⟩
instance {id : Nat} : Str (blockR id K (.exit id) rs) (∀ K' : RS → Prop, (∀ rs', K .normal rs' → K' rs') → restK true K' rs) := ⟨blockR_x⟩
instance {id : Nat} : Stp (blockK id K .normal rs) (K .normal rs) := ⟨blockK_n⟩
instance : Stp (wpA c .skip rs K) (K .normal rs) := ⟨w_skip⟩
instance {i : Nat} : Stp (wpA c (.exit i) rs K) (K (.exit i) rs) := ⟨w_exit⟩
instance : Stp (wpA c .ret rs K) (K .ret rs) := ⟨w_ret⟩
instance : Stp (thenK c b K .ret rs) (K .ret rs) := ⟨thenK_r⟩
instance {i : Nat} : Stp (thenK c b K (.exit i) rs) (K (.exit i) rs) := ⟨thenK_e⟩
instance {id : Nat} : Stp (blockK id K .ret rs) (K .ret rs) := ⟨blockK_r⟩
instance {id : Nat} : Stp (blockK id K (.exit id) rs) (K .normal rs) := ⟨blockK_x⟩
instance {S B : List (Nat × Sh)} {inv : SDat (shL S B) → Prop} {μ : SDat (shL S B) → Nat} {x : SDat (shL S B)} {nx0 : Nat} {l : List Nat} {sl : List (Nat × PA)} {hp : List (Nat × HObj)} {nx : Nat} {gd : List (Nat × (Prop × Path))} {vc : List Prop} {tr : List (List Nat × List Nat)} {wr : List Nat} : Stp (loopK S B inv μ x nx0 l K .ret ⟨sl, hp, nx, gd, vc, tr, wr⟩) (K .ret ⟨sl, hp, nx, gd, vc, tr, wr ++ l⟩) := ⟨loopK_r⟩
instance {S B : List (Nat × Sh)} {inv : SDat (shL S B) → Prop} {μ : SDat (shL S B) → Nat} {x : SDat (shL S B)} {nx0 : Nat} {l : List Nat} {i : Nat} {sl : List (Nat × PA)} {hp : List (Nat × HObj)} {nx : Nat} {gd : List (Nat × (Prop × Path))} {vc : List Prop} {tr : List (List Nat × List Nat)} {wr : List Nat} : Stp (loopK S B inv μ x nx0 l K (.exit i) ⟨sl, hp, nx, gd, vc, tr, wr⟩) (K (.exit i) ⟨sl, hp, nx, gd, vc, tr, wr ++ l⟩) := ⟨loopK_e⟩
instance {l : Nat} : Stp (wpA c (.label l) rs K) (K .normal rs) := ⟨w_label⟩
instance {W : RS → Prop} : Stp (rfA W .normal rs) (W rs) := ⟨rfA_n⟩
instance {B : List (Nat × Sh)} {sl0 : List (Nat × PA)} {hp0 : List (Nat × HObj)} {nx0 : Nat} {gd0 : List (Nat × (Prop × Path))} {vc0 : List Prop} {tr0 : List (List Nat × List Nat)} {wr0 : List Nat} {ns : List Nat} {inv : SDat (shB B) → Prop} {i : Nat} {sl : List (Nat × PA)} {hp : List (Nat × HObj)} {nx : Nat} {gd : List (Nat × (Prop × Path))} {vc : List Prop} {tr : List (List Nat × List Nat)} {wr : List Nat} : Stp (rfK B ⟨sl0, hp0, nx0, gd0, vc0, tr0, wr0⟩ ns inv K (.exit i) ⟨sl, hp, nx, gd, vc, tr, wr⟩) (K (.exit i) ⟨sl0, hp, nx, gd, vc, tr, wr ++ (keysS B ++ ns ++ wr0)⟩) := ⟨rfK_e⟩
instance {B : List (Nat × Sh)} {sl0 : List (Nat × PA)} {hp0 : List (Nat × HObj)} {nx0 : Nat} {gd0 : List (Nat × (Prop × Path))} {vc0 : List Prop} {tr0 : List (List Nat × List Nat)} {wr0 : List Nat} {ns : List Nat} {inv : SDat (shB B) → Prop} {sl : List (Nat × PA)} {hp : List (Nat × HObj)} {nx : Nat} {gd : List (Nat × (Prop × Path))} {vc : List Prop} {tr : List (List Nat × List Nat)} {wr : List Nat} : Stp (rfK B ⟨sl0, hp0, nx0, gd0, vc0, tr0, wr0⟩ ns inv K .ret ⟨sl, hp, nx, gd, vc, tr, wr⟩) (K .ret ⟨sl0, hp, nx, gd, vc, tr, wr ++ (keysS B ++ ns ++ wr0)⟩) := ⟨rfK_r⟩
instance {l : List Nat} {sl : List (Nat × PA)} {hp : List (Nat × HObj)} {nx : Nat} {gd : List (Nat × (Prop × Path))} {vc : List Prop} {tr : List (List Nat × List Nat)} {wr : List Nat} : Stp (rfE l K ⟨sl, hp, nx, gd, vc, tr, wr⟩) (K .normal ⟨sl, hp, nx, gd, vc, tr, wr ++ l⟩) := ⟨rfE_at⟩
instance {E : Env} {S : LSpec} {x : SDat S.ins} {rl : List ResultVar} : Stp (retLK E S x rl .ret rs) (retL E S x rl rs) := ⟨retLK_r⟩
instance {E : Env} {S : LSpec} {x : SDat S.ins} {rl : List ResultVar} : Stp (retLK E S x rl .normal rs) (retL E S x rl rs) := ⟨retLK_n⟩
instance {ts : List Ty} {D : Eater → Prop} : Stp (retIK c ts D .ret rs) (retI c ts D rs) := ⟨retIK_r⟩
instance {ts : List Ty} {D : Eater → Prop} : Stp (retIK c ts D .normal rs) (retI c ts D rs) := ⟨retIK_n⟩
instance {p : Prop} : Stp (condK c (.dec p) a b rs K) ((p → More (wpA c a rs K)) ∧ (¬ p → More (wpA c b rs K))) := ⟨fun h => condK_p h.1 h.2⟩
instance {x : Bool} : Stp (condK c (.dat .bool x) a b rs K) ((x = true → More (wpA c a rs K)) ∧ (¬ x = true → More (wpA c b rs K))) := ⟨fun h => condK_b h.1 h.2⟩
instance {id : Nat} {ops : Array Oper} {draw : Bool} : Str (wpA c (.region id ops draw) rs K) (∀ K' : RS → Prop, (∀ rs', K .normal rs' → K' rs') → regA c ops.toList draw rs K') := ⟨w_region⟩
instance {Q : RS → Prop} : Str (headK rs Q) (∀ K' : RS → Prop, (∀ rs', Q rs' → K' rs') → forceRS rs K') := ⟨w_head⟩
instance {S B : List (Nat × Sh)} {inv : SDat (shL S B) → Prop} {μ : SDat (shL S B) → Nat} {x : SDat (shL S B)} {nx : Nat} {l : List Nat} : Stw (loopK S B inv μ x nx l K .normal rs) (loopK S B inv μ x nx l K .normal rs) := ⟨id⟩
instance {E : Env} {S : Spec} {x : SDat S.ins} {rl : List ResultVar} : Stw (retK E S x rl .ret rs) (retA E S x rl rs) := ⟨retK_r⟩
instance {E : Env} {S : Spec} {x : SDat S.ins} {rl : List ResultVar} : Stw (retK E S x rl .normal rs) (retA E S x rl rs) := ⟨retK_n⟩
instance {B : List (Nat × Sh)} {rs0 : RS} {ns : List Nat} {inv : SDat (shB B) → Prop} : Stw (rfK B rs0 ns inv K .normal rs) (rfK B rs0 ns inv K .normal rs) := ⟨id⟩
instance : Stp (condK c (.blit true) a b rs K) (wpA c a rs K) := ⟨condK_t⟩
instance : Stp (condK c (.blit false) a b rs K) (wpA c b rs K) := ⟨condK_f⟩
end
theorem LS : (∀ n : Nat, Int.toNat (n : Int) = n) ∧ (Int.toNat 0 = 0) ∧ (Int.toNat 1 = 1) ∧ (∀ p : Prop, (¬ ¬ p) = p) ∧ (∀ p : Prop, (boolOf p = true) = p) ∧ (∀ (p : Prop) [Decidable p], (decide p = true) = p) ∧ (∀ (p : Prop) [Decidable p], (decide p = false) = ¬ p)
    ∧ (∀ {α : Type} (a b : α), (a ≠ b) = ¬ a = b) ∧ (∀ p : Prop, (True → p) = p) ∧ ((¬ True) = False) ∧ ((¬ False) = True) ∧ (∀ b : Bool, (¬ b = true) = (b = false)) ∧ (∀ {α β : Type} (a a' : α) (b b' : β), ((a, b) = (a', b')) = (a = a' ∧ b = b')) ∧ (∀ p : Prop, (p ∧ True) = p) ∧ (∀ p : Prop, (True ∧ p) = p)
    ∧ (∀ (α : Type) [Nonempty α] (p : Prop), (α → p) = p) ∧ (∀ {ins : Sh} {p : Prop} {x : SDat ins} {hp : Nat → HObj} {ns : List Nat} {nx1 : Nat}, preA false p x hp ns nx1 = p) ∧ (∀ b : Bool, (selB b = 0) = (b = false)) ∧ (∀ b : Bool, (selB b = 1) = (b = true)) ∧ (∀ p : Prop, (boolOf p = false) = ¬ p)
    ∧ (∀ {α : Type} (d x : α), (List.replicate 1 d).set 0 x = [x]) ∧ (∀ {α : Type} (d x y : α), ((List.replicate 2 d).set 0 x).set 1 y = [x, y]) ∧ (∀ {α : Type} (d x y z : α), (((List.replicate 3 d).set 0 x).set 1 y).set 2 z = [x, y, z])
    ∧ (∀ {α : Type} (l : List α) (n : Nat) (x : α), (l.set n x).length = l.length) ∧ (∀ {α : Type} (l m : List α), (l ++ m).length = l.length + m.length) ∧ (∀ {α β : Type} (f : α → β) (l : List α), (l.map f).length = l.length) ∧ (∀ {α : Type} (x : α) (l : List α), (x :: l).length = l.length + 1) ∧ (∀ {α : Type}, ([] : List α).length = 0) ∧ (∀ {α : Type} (n : Nat) (x : α), (List.replicate n x).length = n)
    ∧ (∀ n : Nat, 0 + n = n) ∧ (∀ n : Nat, n + 0 = n) := by
 refine ⟨fun _ => rfl, rfl, rfl, fun _ => propext Classical.not_not, fun _ => propext boolOf_true, fun _ _ => propext decide_eq_true_iff, fun _ _ => propext decide_eq_false_iff_not, fun _ _ => rfl, fun _ => propext ⟨fun h => h trivial, fun h _ => h⟩, by simp, by simp, fun _ => by simp, fun _ _ _ _ => by simp, fun _ => by simp, fun _ => by simp,
  fun _ _ _ => by simp, rfl, fun _ => propext selB_0, fun _ => propext selB_1, fun _ => propext boolOf_eq_false, fun _ _ => rfl, fun _ _ _ => rfl, fun _ _ _ _ => rfl, fun _ _ _ => by simp, fun _ _ => by simp, fun _ _ => by simp, fun _ _ => rfl, rfl, fun _ _ => by simp, fun _ => by simp, fun _ => rfl⟩
end Go.Gv

/- A contract of a function that touches no memory, out of what is known of its calls. -/
namespace Go.Gv
open Go
theorem castDat_self {t : Ty} {x : Dat t} : castDat t t x = some x := by unfold castDat; rw [dif_pos rfl]
theorem toDat_dat (hp : Nat → HObj) (t : Ty) (x : Dat t) : toDat hp t (.dat t x) = some x := by
 cases t with
 | ifc u s r =>
  cases r with
  | ni =>
   show castI s u (.ifc u s .ni) x = some x
   unfold castI
   rw [castDat_self]
  | _ => simp only [toDat, toDat1, castDat_self]
 | _ => simp only [toDat, toDat1, castDat_self]
def datSh : Sh → Bool
 | .nil => true
 | .cons (.d _) s => datSh s
 | _ => false
theorem fromA_into (hp : Nat → HObj) : ∀ (s : Sh), datSh s = true → ∀ (x : SDat s) (nm : Nat → Nat) (n nx : Nat), fromA hp s (intoA nm s x n) nx = some ⟨x, [], [], nx⟩
 | .nil, _, x, _, _, _ => rfl
 | .cons (.d t) s, h, x, nm, n, nx => by
  have ih := fromA_into hp s h x.2 nm (n + 0) nx
  simp only [intoA, nn] at ih ⊢
  simp only [fromA, toDat_dat, ih]
  rfl
theorem fromA_end (hp : Nat → HObj) : ∀ (s : Sh), datSh s = true → ∀ (x : SDat s) (n nx : Nat), fromA hp (backS s) (endAP s x n) nx = some ⟨keepS s x, [], [], nx⟩
 | .nil, _, x, _, _ => rfl
 | .cons (.d t) s, h, x, n, nx => by
  have ih := fromA_end hp s h x.2 (n + 0) nx
  simp only [endAP, backS, nn] at ih ⊢
  simp only [fromA, toDat_dat, ih]
  rfl
theorem listA_into : ∀ (s : Sh), datSh s = true → ∀ (x : SDat s) (nm : Nat → Nat) (n : Nat), ∃ L, listA L = intoA nm s x n
 | .nil, _, _, _, _ => ⟨[], rfl⟩
 | .cons (.d t) s, h, x, nm, n => by
  obtain ⟨L, hL⟩ := listA_into s h x.2 nm (n + nn (.d t))
  exact ⟨.dat t x.1 :: L, by unfold listA; rw [hL]; rfl⟩
theorem pure_ok {P : Program} {gl : Glob} {f : FuncId} {fn : Func} {n : Nat} {ins outs : Sh} {pre : SDat ins → Prop} {res : SDat ins → SDat outs} (hf : FnOK P f fn n) (hi : datSh ins = true) (ho : datSh outs = true)
    (h : ∀ x, pre x → ∀ (β : Asg) (G : GW) (args : List Value), (∀ g t y, gl g = some ⟨t, y⟩ → sat (.ptr t y) β G (.pointer (some ⟨g, 0, none⟩))) → satT (intoA (fun k => k) ins x 0) β G args →
     Calls P f args.toArray G.w (fun e w' => ∃ vs, e = .returned (resV vs) ∧ w' = G.w ∧ satT (intoA (fun k => k) outs (res x) 0) β G vs)) :
    SpecOK P gl f { ins := ins, pre := pre, alts := [{ outs := outs, res := res }] } := by
 refine ⟨⟨fn, hf.at', by have := hf.body; revert this; cases fn.body <;> simp, hf.name⟩, fun x hpre => ⟨_, rfl, fun C β G args hg hz H hargs => ?_⟩⟩
 refine Calls.mono (h x hpre β G args (fun g t y hy => (H.glob g t y (by rw [hg]; exact hy)).sat β) hargs) fun e w' hr => ?_
 obtain ⟨vs, rfl, rfl, hv⟩ := hr
 obtain ⟨L, hL⟩ := listA_into outs ho (res x) (fun k => k) 0
 exact ⟨⟨_, β, G, L, vs, nn ins, res x, [], [], nn ins, keepS ins x, [], [], nn ins, rfl, H, Asg.le_refl β, G.le_refl, rfl, by rw [hL]; exact hv, fun k hk => canon_out ins x hk, by rw [hL]; exact fromA_into _ outs ho (res x) _ 0 _, fromA_end _ ins hi x 0 _, rfl, rfl, rfl, rfl⟩⟩
theorem SpecOK.either {P : Program} {gl : Glob} {f : FuncId} {ins : Sh} {pre q : SDat ins → Prop} {sel : SDat ins → Nat} {alts : List (Alt ins)} {ro : Bool} (h1 : SpecOK P gl f { ins := ins, pre := fun x => pre x ∧ q x, sel := sel, alts := alts, ro := ro })
    (h2 : SpecOK P gl f { ins := ins, pre := fun x => pre x ∧ ¬ q x, sel := sel, alts := alts, ro := ro }) : SpecOK P gl f { ins := ins, pre := pre, sel := sel, alts := alts, ro := ro } :=
 ⟨h1.1, fun x hp => (Classical.em (q x)).elim (fun hq => h1.2 x ⟨hp, hq⟩) (fun hq => h2.2 x ⟨hp, hq⟩)⟩
end Go.Gv
