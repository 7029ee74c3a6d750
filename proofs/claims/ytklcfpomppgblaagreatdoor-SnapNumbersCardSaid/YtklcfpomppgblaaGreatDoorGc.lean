/- A verified generator of conditions over the code of the model. Part 3. -/
import Derived.Test.YtklcfpomppgblaaGreatDoorGb
import Derived.MapKept
import Derived.Lib.AppendZerosOnto
import Derived.Laws.Runes
import Derived.Laws.BytesString
set_option linter.all false

/- Soundness of the evaluators, sixth part: append over own memory. -/
namespace Go.Gv
open Go
theorem Step.weaken {F F1 : Nat → Nat → Prop} {Fo Fo1 : Nat → Prop} {G G' : GW} (h : Step F Fo G G') (hF : ∀ b o, F b o → F1 b o) (hFo : ∀ b, Fo b → Fo1 b) : Step F1 Fo1 G G' := {
 os := h.os
 tape := h.tape
 output := h.output
 size := h.size
 cell := fun b o hb hn => h.cell b o hb (fun hf => hn (hF b o hf))
 blk := fun b hb hn ho => h.blk b hb (fun o hf => hn o (hF b o hf)) (fun hf => ho (hFo b hf))
 obj := fun b es c ho he => h.obj b es c (fun hf => ho (hFo b hf)) he
 le := h.le
 new := fun b o hi => (h.new b o hi).imp id (Or.imp (hF b o) id)
 newo := fun b hi => (h.newo b hi).imp id (Or.imp (hFo b) id)
 drawn := h.drawn
 nz := h.nz }
theorem Step.drew (G : GW) : Step (fun _ _ => False) (fun _ => False) G { G with w := G.w.drew } :=
 ⟨rfl, rfl, rfl, Nat.le_refl _, fun _ _ _ _ => ⟨rfl, rfl⟩, fun _ _ _ _ => rfl, fun _ _ _ _ h => h, ⟨fun _ _ h => ⟨h, rfl⟩, fun _ h => ⟨h, rfl⟩⟩, fun _ _ h => .inl h, fun _ h => .inl h, .inl (Nat.le_succ _), rfl⟩
theorem Step.grown {C : Ctx} {hp : Nat → HObj} {β : Asg} {G : GW} (H : HInv C hp β G) (o : Obj) (im : Nat → Prop) (F : Nat → Nat → Prop) (Fo : Nat → Prop) : Step F Fo G (GW.alloc { G with w := G.w.drew } o im False) := by
 have h1 := Step.drew G
 have h2 := GW.alloc_step H.drew.heap o im False
 exact (h1.trans h2 (fun _ _ h => h.elim) (fun _ h => h.elim)).weaken (fun _ _ h => h.elim) (fun _ h => h.elim)
theorem asg_le {hp : Nat → HObj} {β : Asg} {G : GW} (H : HeapOK hp β G) {nx : Nat} (hn : hp nx = .none) (v : Value) : β.le (fun n => if n = nx then some v else β n) := fun n u e => by
 by_cases hnh : n = nx
 · subst hnh; rw [H.no _ hn] at e; cases e
 · simp [hnh, e]
theorem HInv.name {C : Ctx} {hp : Nat → HObj} {β : Asg} {G : GW} (H : HInv C hp β G) {nx : Nat} (hn : hp nx = .none) (ob : HObj) (v : Value) (hob : ob ≠ .none) (hs : satH ob v (fun n => if n = nx then some v else β n) G)
    (hno : ∀ b o, ¬ fpc ob v b o) (hnoo : ∀ b, ¬ fpo ob v b) : HInv C (hset hp [(nx, ob)]) (fun n => if n = nx then some v else β n) G := by
 have hle := asg_le H.heap hn v
 refine ⟨H.heap.gen (fun n => n = nx) (Step.refl (fun _ _ => False) (fun _ => False) G) hle (fun n hne => ⟨by simp [hset, hne], by simp [hne]⟩) (fun _ _ h => h.elim) (fun _ h => h.elim)
  (fun n e hno => (by subst e; simp [hset] at hno; exact (hob hno).elim)) (fun n e _ => ?_) (fun n v' e hv' bb o hf => ?_) (fun n v' e hv' bb hf => ?_) (fun n n' _ _ e e' hne => (hne (e.trans e'.symm)).elim) (fun n n' _ _ e e' hne => (hne (e.trans e'.symm)).elim) H.heap.old H.heap.oldo, H.step, fun n v' hv' bb o hf => ?_, fun n v' hv' bb hf => ?_, fun g t x hx => (H.glob g t x hx).mono G.le_refl⟩
 · subst e; exact ⟨v, by simp, by simpa [hset] using hs⟩
 · subst e; simp at hv'; subst hv'; simp [hset] at hf; exact (hno _ _ hf).elim
 · subst e; simp at hv'; subst hv'; simp [hset] at hf; exact (hnoo _ hf).elim
 · by_cases e : n = nx
   · subst e; simp at hv'; subst hv'; simp [hset] at hf; exact (hno _ _ hf).elim
   · simp [e] at hv'; simp [hset, e] at hf; exact H.own n v' hv' bb o hf
 · by_cases e : n = nx
   · subst e; simp at hv'; subst hv'; simp [hset] at hf; exact (hnoo _ hf).elim
   · simp [e] at hv'; simp [hset, e] at hf; exact H.owno n v' hv' bb hf
theorem rep_append {G : GW} {t : Ty} {xs ys : List (Dat t)} {L M rest : List Value} (hl : L.length = xs.length * t.size) (hm : M.length = ys.length * t.size)
    (h1 : ∀ (i : Nat) (x : Dat t), xs[i]? = some x → Rep t x G ((L.drop (i * t.size)).take t.size)) (h2 : ∀ (i : Nat) (x : Dat t), ys[i]? = some x → Rep t x G ((M.drop (i * t.size)).take t.size)) :
    ∀ (i : Nat) (x : Dat t), (xs ++ ys)[i]? = some x → Rep t x G (((L ++ M ++ rest).drop (i * t.size)).take t.size) := by
 intro i x hx
 by_cases hi : i < xs.length
 · rw [List.getElem?_append_left hi] at hx
   have hle : i * t.size + t.size ≤ xs.length * t.size := by rw [← Nat.succ_mul]; exact Nat.mul_le_mul_right _ hi
   rw [List.append_assoc, List.drop_append_of_le_length (by omega), List.take_append_of_le_length (by rw [List.length_drop]; omega)]
   exact h1 i x hx
 · rw [List.getElem?_append_right (by omega)] at hx
   have hi2 := (List.getElem?_eq_some_iff.1 hx).1
   have hle : (i - xs.length) * t.size + t.size ≤ ys.length * t.size := by rw [← Nat.succ_mul]; exact Nat.mul_le_mul_right _ hi2
   have e : i * t.size = L.length + (i - xs.length) * t.size := by rw [hl, ← Nat.add_mul]; congr 1; omega
   rw [List.append_assoc, e, List.drop_append, List.drop_eq_nil_of_le (by omega), List.nil_append, Nat.add_sub_cancel_left, List.drop_append_of_le_length (by omega), List.take_append_of_le_length (by rw [List.length_drop]; omega)]
   exact h2 _ x hx
theorem sl_of_cells {G : GW} {t : Ty} {zs : List (Dat t)} {a : Addr} {n cap : Nat} {LM : List Value} (hzn : zs.length = n) (hsp : 0 < cap → a.spot = none) (hl : zs.length ≤ cap) (hm : cap ≤ maxLen) (hc : CellsIm G a.block a.off LM)
    (hr : ∀ (i : Nat) (x : Dat t), zs[i]? = some x → Rep t x G ((LM.drop (i * t.size)).take t.size)) : RepV (.sl t) zs G (.slice (some a) n cap) := by
 subst hzn
 refine .of_one rfl ⟨_, _, rfl, hl, hm, fun h => (by cases h), fun a' ha => ?_⟩
 cases ha
 refine ⟨hsp, fun i x hx => ⟨_, fun j u hu => ?_, hr i x hx⟩⟩
 rw [List.getElem?_take] at hu
 split at hu
 · rw [List.getElem?_drop] at hu
   have := hc _ _ hu
   rwa [← Nat.add_assoc] at this
 · cases hu
theorem row_of_cells {β : Asg} {G : GW} {t : Ty} {zs : List (Dat t)} {a : Addr} {n cap : Nat} {LM : List Value} (hzn : zs.length = n) (hsp : 0 < cap → a.spot = none) (hl : zs.length ≤ cap) (hm : cap ≤ maxLen) (hf : ∀ j, j < cap * t.size → Free G.w a.block (a.off + j))
    (hc : ∀ j u, LM[j]? = some u → G.w.cell? ⟨a.block, a.off + j, none⟩ = some u)
    (hr : ∀ (i : Nat) (x : Dat t), zs[i]? = some x → Rep t x G ((LM.drop (i * t.size)).take t.size)) : satH (.row t zs) (.slice (some a) n cap) β G := by
 subst hzn
 refine ⟨_, _, rfl, hl, hm, fun h => (by cases h), fun a' ha => ?_⟩
 cases ha
 refine ⟨hsp, hf, fun i x hx => ⟨_, fun j u hu => ?_, hr i x hx⟩⟩
 rw [List.getElem?_take] at hu
 split at hu
 · rw [List.getElem?_drop] at hu
   have := hc _ _ hu
   rwa [← Nat.add_assoc] at this
 · cases hu
theorem cells_behind {w w' : World} {b o n : Nat} {L M : List Value} (hw : Wrote w w' b (o + L.length) n) (h1 : ∀ j u, L[j]? = some u → w.cell? ⟨b, o + j, none⟩ = some u)
    (h2 : ∀ j u, M[j]? = some u → w'.cell? ⟨b, o + L.length + j, none⟩ = some u) : ∀ j u, (L ++ M)[j]? = some u → w'.cell? ⟨b, o + j, none⟩ = some u := by
 intro j u hu
 by_cases hj : j < L.length
 · rw [List.getElem?_append_left hj] at hu
   rw [hw.cell _ _ (fun ⟨_, e1, _⟩ => by omega)]
   exact h1 j u hu
 · rw [List.getElem?_append_right (by omega)] at hu
   have := h2 _ u hu
   rwa [show o + L.length + (j - L.length) = o + j by omega] at this
theorem free_wrote {w w' : World} {b o n : Nat} (hw : Wrote w w' b o n) {k : Nat} (h : Free w b k) (hc : ∀ i, i < n → ∃ u, w'.cell? ⟨b, o + i, none⟩ = some u) : Free w' b k := by
 refine ⟨?_, by rw [hw.frz]; exact h.2⟩
 by_cases hin : o ≤ k ∧ k < o + n
 · have := hc (k - o) (by omega)
   rwa [show o + (k - o) = k by omega] at this
 · rw [hw.cell _ _ (fun ⟨_, e1, e2⟩ => hin ⟨e1, e2⟩)]; exact h.1
theorem Wrote.step_im {hp : Nat → HObj} {β : Asg} {G : GW} (H : HeapOK hp β G) {h : Nat} {v : Value} (hv : β h = some v) {w' : World} {b o n : Nat} (hw : Wrote G.w w' b o n) (hn0 : 0 < n) (hin : ∀ i, o ≤ i → i < o + n → fpc (hp h) v b i) (Fo : Nat → Prop) :
    Step (fpc (hp h) v) Fo G { w := w', im := fun b' o' => G.im b' o' ∨ (b' = b ∧ o ≤ o' ∧ o' < o + n), imo := G.imo, nz := G.nz } := {
 os := hw.os
 tape := hw.tape
 output := hw.output
 size := Nat.le_of_eq hw.size.symm
 cell := (Wrote.step H hv hw hn0 hin Fo).cell
 blk := (Wrote.step H hv hw hn0 hin Fo).blk
 obj := fun b' es c _ hm => hw.map b' _ (.inl ⟨es, c, rfl⟩) hm
 le := ⟨fun b' o' hi => ⟨.inl hi, ((Wrote.step H hv hw hn0 hin Fo).le.1 b' o' hi).2⟩, (Wrote.step H hv hw hn0 hin Fo).le.2⟩
 new := fun _ _ hi => hi.elim .inl (fun ⟨e, e1, e2⟩ => .inr (.inl (by subst e; exact hin _ e1 e2)))
 newo := fun _ hi => .inl hi
 drawn := .inl (Nat.le_of_eq hw.drawn.symm)
 nz := rfl }
theorem elemsA_reads {hp : Nat → HObj} {β : Asg} {G : GW} (H : HeapSat hp β G) {t : Ty} {Y : AP} {ys : List (Dat t)} {v : Value} (h : elemsA hp t Y = some ys) (hs : sat Y β G v) : ∃ own, ReadsAs G t ys v own := by
 unfold elemsA at h
 split at h
 · simp only [Option.some.injEq] at h; subst h
   unfold sat at hs; subst hs
   exact ⟨false, ⟨none, 0, rfl, Nat.le_refl _, Nat.zero_le _, fun _ => rfl, fun _ h => by cases h⟩⟩
 · split at h
   · rename_i u xs hX
     unfold castDat at h
     split at h
     · rename_i e; cases e
       simp only [Option.some.injEq] at h; subst h
       exact ⟨false, readsAs_im (slV_im H hX hs)⟩
     · cases h
   · rename_i n u xs hX
     unfold castDat at h
     split at h
     · rename_i e; cases e
       simp only [Option.some.injEq] at h; subst h
       exact ⟨true, readsAs_own (slV_own H hX hs).2.2⟩
     · cases h
   · cases h
theorem room_nat {n b : Nat} (h : room (n : Nat) (b * 64)) : n * (64 * b) ≤ 140737488355328 := by
 unfold room at h
 have : ((n * (b * 64) : Nat) : Int) ≤ 140737488355328 := by rw [Int.natCast_mul]; exact h
 rw [Nat.mul_comm 64 b]; omega
theorem byte_cells {s : List UInt8} {G : GW} {i : Nat} {x : Int} (hx : (s.map fun b => (b.toNat : Int))[i]? = some x) : Rep (.int .u8) x G (((strCells s).drop (i * 1)).take 1) := by
 rw [List.getElem?_map, Option.map_eq_some_iff] at hx
 obtain ⟨b, hb, rfl⟩ := hx
 have e : ((strCells s).drop (i * 1)).take 1 = [.int .u8 (b.toNat : Int)] := by
  apply List.ext_getElem?
  intro j
  rw [List.getElem?_take, Nat.mul_one]
  by_cases hj : j < 1
  · have : j = 0 := by omega
    subst this
    rw [if_pos hj, List.getElem?_drop, Nat.add_zero, strCells, List.getElem?_map, hb]; rfl
  · rw [if_neg hj]
    cases j with
    | zero => omega
    | succ j => rfl
 rw [e]
 refine ⟨rfl, ?_⟩
 have := b.toNat_lt
 rw [has_iff]
 simp only [lo, hi]
 omega
theorem elemsT_run {P : Program} {E : Env} (hE : E.ok P = true) {hp : Nat → HObj} {β : Asg} {G : GW} (H : HeapSat hp β G) {t : Ty} {T2 : TypeId} {Y : AP} {ys : List (Dat t)} {v : Value} (h : elemsT hp t (E.ty T2) Y = some ys) (hs : sat Y β G v) :
    ∃ M, Appd P T2 t.size G.w v ys.length M ∧ ∀ (i : Nat) (x : Dat t), ys[i]? = some x → Rep t x G ((M.drop (i * t.size)).take t.size) := by
 unfold elemsT at h
 split at h
 · rename_i t2 nb2 ht2
   obtain ⟨e2, hue2, _, _⟩ := und_sl (Env.ty_ok hE ht2).1
   obtain ⟨own, hrd⟩ := elemsA_reads H h hs
   obtain ⟨xb, xc, rfl, y1, y2, y3, M, hM, hM1, hMc, hMr, _⟩ := readsAs_cells hrd
   exact ⟨M, .slice hue2 hM hM1 (fun e => List.eq_nil_of_length_eq_zero (by have := y3 e; rw [hM, show ys.length = 0 by omega, Nat.zero_mul])) y1 hMc, hMr⟩
 · rename_i nb2 ht2
   have hu := und_str (Env.ty_ok hE ht2).1
   split at h
   · rename_i s
     unfold castDat at h
     split at h
     · rename_i e; cases e
       simp only [Option.some.injEq] at h; subst h
       unfold sat at hs
       have hv := (hs.to_one rfl).1
       simp only [List.cons.injEq, and_true] at hv
       subst hv
       refine ⟨strCells s, ?_, fun i x hx => byte_cells hx⟩
       have := Appd.str hu G.w s
       rwa [show s.length = (s.map fun b => (b.toNat : Int)).length by simp] at this
     · cases h
   · cases h
 · cases h
theorem appendA_run {P : Program} {E : Env} (hE : E.ok P = true) {C : Ctx} {hp : Nat → HObj} {nx : Nat} {T T2 ty : TypeId} {ats : Array TypeId} (a0 : ats[0]? = some T) (a1 : ats[1]? = some T2) {X Y : AP} {out : Out} {β : Asg} {G : GW} (H : HInv C hp β G) (hn : hp nx = .none)
    (he : appendA E hp nx T T2 X Y = some out) (hv : ∀ p ∈ out.vc, p) {u v : Value} (hu : sat X β G u) (hw : sat Y β G v) : Res P C hp β G (Builtin.append_ ats ty #[u, v]) out := by
 unfold appendA at he
 split at he
 · rename_i t nb ht
   obtain ⟨e, hue, hte, _⟩ := und_sl (Env.ty_ok hE ht).1
   have hpos := tym_pos hte
   split at he
   · rename_i ys hys
     obtain ⟨M, hX, hMr⟩ := elemsT_run hE H.hs hys hw
     have hM := hX.hM
     split at he
     · simp only [Option.some.injEq] at he; subst he
       unfold sat at hu; subst hu
       have hroom := room_nat (hv _ List.mem_cons_self)
       rcases append_run (P := P) (e := e) ty a0 a1 hue hte G.w none v 0 0 ys.length [] M hX (Nat.le_refl _) (fun _ => rfl) (by simp) (fun a h => by cases h) (fun _ a h => by cases h) (by rw [Nat.zero_add]; exact hroom) with ⟨_, h1, h2⟩ | ⟨_, _, a, h1, _⟩ | ⟨_, nc, rest, h1, h2, h3, h4⟩
       · have hy0 : ys = [] := List.eq_nil_of_length_eq_zero h1
         subst hy0
         refine ⟨_, _, G, h2, H.name hn (.spare t) (.slice none 0 0) (by simp) ⟨_, _, _, rfl, fun a h => by cases h⟩ (fun _ _ h => h) (fun _ h => h), asg_le H.heap hn _, G.le_refl, ?_⟩
         unfold sat
         exact ⟨by simp, .of_one rfl ⟨none, 0, rfl, Nat.le_refl _, Nat.zero_le _, fun _ => rfl, fun _ h => by cases h⟩⟩
       · cases h1
       · rw [Nat.zero_add] at h1 h2 h4
         obtain ⟨β', h5, h6, h7⟩ := alloc_spare H.drew ([] ++ M ++ rest).toArray e t ys nc hn (by simp [hM, h4, Nat.sub_mul]; have := Nat.mul_le_mul_right t.size h2; omega) h2 h3 (fun i x hx => by
          have := rep_append (G := { G with w := G.w.drew }) (rest := rest) (xs := []) (ys := ys) (L := []) (by simp) hM (fun i x h => by simp at h) (fun i x h => Rep.mono t (hMr i x h) (GW.le_drew G)) i x (by simpa using hx)
          simpa using this)
         exact ⟨_, β', _, h1, h5, h6, GW.le_trans (GW.le_drew G) (GW.alloc_step H.drew.heap _ _ _).le, h7⟩
     · rename_i h uT xs0
       split at he
       · rename_i w xs hh hcast
         split at he
         · rename_i hd
           have hd := of_decide_eq_true hd; subst hd
           unfold castDat at hcast
           split at hcast
           · rename_i ee; cases ee
             simp only [Option.some.injEq] at hcast; subst hcast
             simp only [Option.some.injEq] at he; subst he
             have hroom := room_nat (hv _ List.mem_cons_self)
             unfold sat at hu
             obtain ⟨hb, hx⟩ := hu
             obtain ⟨base, cap, rfl, x1, x2, x3, L, hL, hL1, hLc, hLr, hLi⟩ := readsAs_cells (readsAs_im hx)
             have hxim := hx.to_one rfl
             unfold Rep at hxim
             obtain ⟨u', hu', hsat⟩ := H.heap.sat h (by rw [hh]; simp)
             rw [hb] at hu'; cases hu'
             rw [hh] at hsat
             obtain ⟨base', len', cap', e', hfree⟩ := hsat
             cases e'
             rcases append_run (P := P) (e := e) ty a0 a1 hue hte G.w base v xs0.length cap ys.length L M hX x1 x3 hL hLc (fun hfit a ha j j1 j2 => (hfree a ha).2 j j1 (Nat.lt_of_lt_of_le j2 (Nat.mul_le_mul_right _ hfit))) hroom with ⟨_, h1, h2⟩ | ⟨hfit, hn0, a, rfl, w', h1, hwr, h2⟩ | ⟨_, nc, rest, h1, h2, h3, h4⟩
             · have hy0 : ys = [] := List.eq_nil_of_length_eq_zero h1
               subst hy0
               obtain ⟨h5, h6⟩ := H.move h nx (.slice base xs0.length cap) (.slice base xs0.length cap) (.spare uT) hb hn (by simp) (Step.refl _ _ G) ⟨_, _, _, rfl, hfree⟩
                (fun b i hf => ⟨.inl (by rw [hh]; exact hf), H.heap.im h _ hb b i (by rw [hh]; exact hf)⟩) (fun b hf => by cases hf) H.heap.old H.heap.oldo
               refine ⟨_, _, G, h2, h5, h6, G.le_refl, ?_⟩
               unfold sat
               rw [List.append_nil]
               exact ⟨by simp, hx⟩
             · obtain ⟨hsp, hLa⟩ := hLc a rfl
               have hfr := (hfree a rfl).2
               have hwr' : Wrote G.w w' a.block (a.off + L.length) (ys.length * uT.size) := by rw [hL]; exact hwr
               have hLM := cells_behind hwr' hLa (by rw [hL]; exact h2)
               have hcs : (xs0.length + ys.length) * uT.size ≤ cap * uT.size := Nat.mul_le_mul_right _ hfit
               rw [Nat.add_mul] at hcs
               have hsize : 0 < ys.length * uT.size := Nat.mul_pos hn0 hpos
               have hst := Wrote.step_im H.heap hb hwr hsize (fun i i1 i2 => by rw [hh]; exact ⟨rfl, i1, by omega⟩) (fpo (hp h) (.slice (some a) xs0.length cap))
               have hrv : RepV (.sl uT) (xs0 ++ ys) { w := w', im := fun b' o' => G.im b' o' ∨ (b' = a.block ∧ a.off + xs0.length * uT.size ≤ o' ∧ o' < a.off + xs0.length * uT.size + ys.length * uT.size), imo := G.imo, nz := G.nz } (.slice (some a) (xs0.length + ys.length) cap) := by
                refine sl_of_cells (LM := L ++ M) List.length_append hsp (by rw [List.length_append]; exact hfit) x2 (fun j u hu => ⟨?_, hLM j u hu⟩) (fun i x hx => ?_)
                · by_cases hj : j < xs0.length * uT.size
                  · exact .inl (hLi rfl a rfl j u (by rwa [List.getElem?_append_left (by omega)] at hu)).1
                  · have := (List.getElem?_eq_some_iff.1 hu).1
                    rw [List.length_append, hL, hM] at this
                    exact .inr ⟨rfl, by omega, by omega⟩
                · have := rep_append (rest := []) hL hM (fun i x h => Rep.mono uT (hLr i x h) hst.le) (fun i x h => Rep.mono uT (hMr i x h) hst.le) i x hx
                  rwa [List.append_nil] at this
               obtain ⟨h5, h6⟩ := H.move h nx (.slice (some a) xs0.length cap) (.slice (some a) (xs0.length + ys.length) cap) (.spare uT) hb hn (by simp) hst ⟨_, _, _, rfl, fun a' ha' => by
                   cases ha'
                   exact ⟨hsp, fun j j1 j2 => free_wrote hwr (hfr j (by rw [Nat.add_mul] at j1; omega) j2) (fun i hi => by
                    obtain ⟨u, hu⟩ : ∃ u, M[i]? = some u := ⟨_, List.getElem?_eq_getElem (by omega)⟩
                    exact ⟨u, h2 i u hu⟩)⟩⟩
                (fun b i hf => by
                 obtain ⟨rfl, f1, f2⟩ := hf
                 rw [Nat.add_mul] at f1
                 have hin : fpc (hp h) (.slice (some a) xs0.length cap) a.block i := by rw [hh]; exact ⟨rfl, by omega, f2⟩
                 refine ⟨.inl hin, fun hi => ?_, by have := (H.heap.im h _ hb _ _ hin).2; exact Nat.lt_of_lt_of_le this hst.size⟩
                 rcases hi with hi | ⟨_, _, hi⟩
                 · exact (H.heap.im h _ hb _ _ hin).1 hi
                 · omega) (fun b hf => by cases hf)
                (fun b o hi => by
                 rcases hi with hi | ⟨rfl, _, _⟩
                 · exact Nat.lt_of_lt_of_le (H.heap.old b o hi) hst.size
                 · have hin : fpc (hp h) (.slice (some a) xs0.length cap) a.block (a.off + xs0.length * uT.size) := by rw [hh]; exact ⟨rfl, by omega, by omega⟩
                   exact Nat.lt_of_lt_of_le (H.heap.im h _ hb _ _ hin).2 hst.size)
                (fun b hi => by obtain ⟨o, e, e'⟩ := H.heap.oldo b hi; exact ⟨o, (hst.le.2 b hi).2.trans e, e'⟩)
               refine ⟨_, _, _, h1, h5, h6, hst.le, ?_⟩
               unfold sat
               exact ⟨by simp, hrv⟩
             · have hst := Step.grown H (.cells (L ++ M ++ rest).toArray e) (fun o => o < (xs0.length + ys.length) * uT.size) (fpc (hp h) (.slice base xs0.length cap)) (fpo (hp h) (.slice base xs0.length cap))
               have hai := H.drew.alloc_im (.cells (L ++ M ++ rest).toArray e) (fun o => o < (xs0.length + ys.length) * uT.size) False (fun h => h.elim)
               have hcell : ∀ j u, (L ++ M ++ rest)[j]? = some u → (G.w.drew.alloc (.cells (L ++ M ++ rest).toArray e)).cell? ⟨G.w.heap.size, j, none⟩ = some u := fun j u hu => by
                have : (G.w.drew.alloc (.cells (L ++ M ++ rest).toArray e)).cell? ⟨G.w.drew.heap.size, j, none⟩ = some u := by rw [World.cell?_alloc_new]; simpa using hu
                exact this
               have hfrz : ∀ j, (G.w.drew.alloc (.cells (L ++ M ++ rest).toArray e)).frozen? ⟨G.w.heap.size, j, none⟩ = false := fun j => by
                have : (G.w.drew.alloc (.cells (L ++ M ++ rest).toArray e)).frozen? ⟨G.w.drew.heap.size, j, none⟩ = false := World.frozen?_alloc_new _ _ _ _
                exact this
               have hszs : (G.w.drew.alloc (.cells (L ++ M ++ rest).toArray e)).heap.size = G.w.heap.size + 1 := World.size_alloc _ _
               have hlen : (L ++ M ++ rest).length = nc * uT.size := by
                have := Nat.mul_le_mul_right uT.size h2
                rw [List.length_append, List.length_append, hL, hM, h4, Nat.sub_mul, ← Nat.add_mul]; omega
               obtain ⟨h5, h6⟩ := H.move h nx (.slice base xs0.length cap) (.slice (some ⟨G.w.heap.size, 0, none⟩) (xs0.length + ys.length) nc) (.spare uT) hb hn (by simp) hst ⟨_, _, _, rfl, fun a' ha' => by
                   cases ha'
                   refine ⟨fun _ => rfl, fun j j1 j2 => ?_⟩
                   rw [Nat.zero_add]
                   exact ⟨⟨_, hcell j _ (List.getElem?_eq_getElem (by rw [hlen]; exact j2))⟩, hfrz j⟩⟩
                (fun b i hf => by
                 obtain ⟨rfl, f1, f2⟩ := hf
                 refine ⟨.inr (Nat.le_refl _), fun hi => ?_, ?_⟩
                 · rcases hi with hi | ⟨_, hi⟩
                   · exact Nat.lt_irrefl _ (H.heap.old _ _ hi)
                   · dsimp only at f1; omega
                 · show G.w.heap.size < (G.w.drew.alloc _).heap.size
                   rw [hszs]; omega) (fun b hf => by cases hf) hai.heap.old hai.heap.oldo
               refine ⟨_, _, _, h1, h5, h6, hst.le, ?_⟩
               unfold sat
               refine ⟨by simp, ?_⟩
               refine sl_of_cells (LM := L ++ M) List.length_append (fun _ => rfl) (by rw [List.length_append]; exact h2) h3 (fun j u hu => ⟨.inr ⟨rfl, ?_⟩, ?_⟩) (fun i x hx => ?_)
               · have := (List.getElem?_eq_some_iff.1 hu).1
                 rw [List.length_append, hL, hM, ← Nat.add_mul] at this
                 show 0 + j < _
                 omega
               · show (G.w.drew.alloc _).cell? _ = _
                 rw [Nat.zero_add]
                 exact hcell j u (by rw [List.getElem?_append_left (List.getElem?_eq_some_iff.1 hu).1]; exact hu)
               · have := rep_append (rest := []) hL hM (fun i x h => Rep.mono uT (hLr i x h) hst.le) (fun i x h => Rep.mono uT (hMr i x h) hst.le) i x hx
                 rwa [List.append_nil] at this
           · cases hcast
         · cases he
       · cases he
     · rename_i h
       split at he
       · rename_i uT xs0 hh
         split at he
         · rename_i xs hcast
           unfold castDat at hcast
           split at hcast
           · rename_i ee; cases ee
             simp only [Option.some.injEq] at hcast; subst hcast
             simp only [Option.some.injEq] at he; subst he
             have hroom := room_nat (hv _ List.mem_cons_self)
             unfold sat at hu
             obtain ⟨hb, hone⟩ := hu
             obtain ⟨u', hu', hsat⟩ := H.heap.sat h (by rw [hh]; simp)
             rw [hb] at hu'; cases hu'
             rw [hh] at hsat
             obtain ⟨base, cap, rfl, x1, x2, x3, L, hL, hL1, hLc, hLr, _⟩ := readsAs_cells (readsAs_own hsat)
             have hsat0 := hsat
             obtain ⟨base', cap', e', s1, s2, s3, s4⟩ := hsat
             cases e'
             rcases append_run (P := P) (e := e) ty a0 a1 hue hte G.w base v xs0.length cap ys.length L M hX x1 x3 hL hLc (fun hfit a ha j j1 j2 => (s4 a ha).2.1 j (Nat.lt_of_lt_of_le j2 (Nat.mul_le_mul_right _ hfit))) hroom with ⟨_, h1, h2⟩ | ⟨hfit, hn0, a, rfl, w', h1, hwr, h2⟩ | ⟨_, nc, rest, h1, h2, h3, h4⟩
             · have hy0 : ys = [] := List.eq_nil_of_length_eq_zero h1
               subst hy0
               rw [List.append_nil]
               obtain ⟨h5, h6⟩ := H.move h nx (.slice base xs0.length cap) (.slice base xs0.length cap) (.row t xs0) hb hn (by simp) (Step.refl _ _ G) (by obtain ⟨b1, c1, q⟩ := hsat0; exact ⟨b1, c1, q⟩)
                (fun b i hf => ⟨.inl (by rw [hh]; exact hf), H.heap.im h _ hb b i (by rw [hh]; exact hf)⟩) (fun b hf => by cases hf) H.heap.old H.heap.oldo
               exact ⟨_, _, G, h2, h5, h6, G.le_refl, by unfold sat; exact ⟨by simp, rfl⟩⟩
             · obtain ⟨hsp, hLa⟩ := hLc a rfl
               have hfr := (s4 a rfl).2.1
               have hwr' : Wrote G.w w' a.block (a.off + L.length) (ys.length * t.size) := by rw [hL]; exact hwr
               have hLM := cells_behind hwr' hLa (by rw [hL]; exact h2)
               have hcs : (xs0.length + ys.length) * t.size ≤ cap * t.size := Nat.mul_le_mul_right _ hfit
               rw [Nat.add_mul] at hcs
               have hsize : 0 < ys.length * t.size := Nat.mul_pos hn0 hpos
               have hst := Wrote.step H.heap hb hwr hsize (fun i i1 i2 => by rw [hh]; exact ⟨rfl, by omega, by omega⟩) (fpo (hp h) (.slice (some a) xs0.length cap))
               obtain ⟨h5, h6⟩ := H.move h nx (.slice (some a) xs0.length cap) (.slice (some a) (xs0.length + ys.length) cap) (.row t (xs0 ++ ys)) hb hn (by simp) hst (by
                   refine row_of_cells (LM := L ++ M) List.length_append hsp (by rw [List.length_append]; exact hfit) x2 (fun j hj => free_wrote hwr (hfr j hj) (fun i hi => by
                    obtain ⟨u, hu⟩ : ∃ u, M[i]? = some u := ⟨_, List.getElem?_eq_getElem (by omega)⟩
                    exact ⟨u, h2 i u hu⟩)) hLM (fun i x hx => ?_)
                   have := rep_append (rest := []) hL hM (fun i x h => Rep.mono t (hLr i x h) hst.le) (fun i x h => Rep.mono t (hMr i x h) hst.le) i x hx
                   rwa [List.append_nil] at this)
                (fun b i hf => by
                 obtain ⟨rfl, f1, f2⟩ := hf
                 have hin : fpc (hp h) (.slice (some a) xs0.length cap) a.block i := by rw [hh]; exact ⟨rfl, f1, f2⟩
                 exact ⟨.inl hin, (H.heap.im h _ hb _ _ hin).1, by have := (H.heap.im h _ hb _ _ hin).2; exact Nat.lt_of_lt_of_le this hst.size⟩) (fun b hf => by cases hf)
                (fun b o hi => Nat.lt_of_lt_of_le (H.heap.old b o hi) hst.size)
                (fun b hi => by obtain ⟨o, e, e'⟩ := H.heap.oldo b hi; exact ⟨o, (hst.le.2 b hi).2.trans e, e'⟩)
               exact ⟨_, _, _, h1, h5, h6, hst.le, by unfold sat; exact ⟨by simp, rfl⟩⟩
             · have hst := Step.grown H (.cells (L ++ M ++ rest).toArray e) (fun _ => False) (fpc (hp h) (.slice base xs0.length cap)) (fpo (hp h) (.slice base xs0.length cap))
               have hai := H.drew.alloc_im (.cells (L ++ M ++ rest).toArray e) (fun _ => False) False (fun h => h.elim)
               have hcell : ∀ j u, (L ++ M ++ rest)[j]? = some u → (G.w.drew.alloc (.cells (L ++ M ++ rest).toArray e)).cell? ⟨G.w.heap.size, j, none⟩ = some u := fun j u hu => by
                have : (G.w.drew.alloc (.cells (L ++ M ++ rest).toArray e)).cell? ⟨G.w.drew.heap.size, j, none⟩ = some u := by rw [World.cell?_alloc_new]; simpa using hu
                exact this
               have hfrz : ∀ j, (G.w.drew.alloc (.cells (L ++ M ++ rest).toArray e)).frozen? ⟨G.w.heap.size, j, none⟩ = false := fun j => by
                have : (G.w.drew.alloc (.cells (L ++ M ++ rest).toArray e)).frozen? ⟨G.w.drew.heap.size, j, none⟩ = false := World.frozen?_alloc_new _ _ _ _
                exact this
               have hszs : (G.w.drew.alloc (.cells (L ++ M ++ rest).toArray e)).heap.size = G.w.heap.size + 1 := World.size_alloc _ _
               have hlen : (L ++ M ++ rest).length = nc * t.size := by
                have := Nat.mul_le_mul_right t.size h2
                rw [List.length_append, List.length_append, hL, hM, h4, Nat.sub_mul, ← Nat.add_mul]; omega
               obtain ⟨h5, h6⟩ := H.move h nx (.slice base xs0.length cap) (.slice (some ⟨G.w.heap.size, 0, none⟩) (xs0.length + ys.length) nc) (.row t (xs0 ++ ys)) hb hn (by simp) hst (by
                   refine row_of_cells (LM := L ++ M ++ rest) List.length_append (fun _ => rfl) (by rw [List.length_append]; exact h2) h3 (fun j hj => ?_) (fun j u hu => ?_) (fun i x hx => ?_)
                   · rw [Nat.zero_add]
                     exact ⟨⟨_, hcell j _ (List.getElem?_eq_getElem (by rw [hlen]; exact hj))⟩, hfrz j⟩
                   · show (G.w.drew.alloc _).cell? _ = _
                     rw [Nat.zero_add]
                     exact hcell j u hu
                   · exact rep_append hL hM (fun i x h => Rep.mono t (hLr i x h) hst.le) (fun i x h => Rep.mono t (hMr i x h) hst.le) i x hx)
                (fun b i hf => by
                 obtain ⟨rfl, f1, f2⟩ := hf
                 refine ⟨.inr (Nat.le_refl _), fun hi => ?_, ?_⟩
                 · rcases hi with hi | ⟨_, hi⟩
                   · exact Nat.lt_irrefl _ (H.heap.old _ _ hi)
                   · exact hi
                 · show G.w.heap.size < (G.w.drew.alloc _).heap.size
                   rw [hszs]; omega) (fun b hf => by cases hf) hai.heap.old hai.heap.oldo
               exact ⟨_, _, _, h1, h5, h6, hst.le, by unfold sat; exact ⟨by simp, rfl⟩⟩
           · cases hcast
         · cases he
       · cases he
     · cases he
   · cases he
 · cases he
theorem appendV_run {P : Program} {E : Env} (hE : E.ok P = true) {C : Ctx} {hp : Nat → HObj} {nx : Nat} {T T2 ty : TypeId} {ats : Array TypeId} (a0 : ats[0]? = some T) (a1 : ats[1]? = some T2) {X Y : AP} {out : Out} {β : Asg} {G : GW} (H : HInv C hp β G) (hn : hp nx = .none)
    (he : appendV E hp nx T T2 X Y = some out) (hv : ∀ p ∈ out.vc, p) {u v : Value} (hu : sat X β G u) (hw : sat Y β G v) : Res P C hp β G (Builtin.append_ ats ty #[u, v]) out := by
 unfold appendV at he
 split at he
 · split at he
   · split at he
     · rename_i _ a c _ t n ht _ vc ap hw' k hA
       simp only [Option.some.injEq] at he; subst he
       have h1 := hv _ List.mem_cons_self
       have h2 := hv _ (List.mem_cons_of_mem _ List.mem_cons_self)
       unfold sat at hw; subst hw
       have hr : RepV (.sl t) ([] : List (Dat t)) G (.slice (some a) 0 c) := .of_one rfl ⟨some a, c, rfl, Nat.zero_le _, h1, fun h => (by cases h), fun a' ha' => by
        cases ha'
        exact ⟨h2, fun i x hx => by cases hx⟩⟩
       have := appendA_run (P := P) (ty := ty) hE a0 a1 H hn hA (fun p hp => hv p (List.mem_cons_of_mem _ (List.mem_cons_of_mem _ hp))) hu (by unfold sat; exact hr)
       exact this
     · cases he
   · cases he
 · exact appendA_run hE a0 a1 H hn he hv hu hw
end Go.Gv

/- Keys of maps that are arrays of integers: they are compared by asking. -/
namespace Go.Gv
open Go
theorem checkArr_run {P : Program} {n : Nat} {q : IntKind} {T : TypeId} (hT : tym P (.arr n (.int q)) T = true) {xs : List Int} {G : GW} {v : Value} (hv : RepV (.arr n (.int q)) xs G v) (em : Bool) (d : Nat) (w : World) :
    (Instr.checkKey em (d + 2) T v).run P w = .ok () w := by
 obtain ⟨rfl, l1, _⟩ := arr_key hv
 obtain ⟨e, hund, he, _⟩ := und_arr hT
 obtain ⟨i, hi, hc⟩ := cells_int he
 have hsz := tym_size he
 rw [Instr.checkKey]
 simp only [Sem.run_bind, run_underlying hund, Result.andThen_ok]
 simp only [Std.Legacy.Range.forIn_eq_forIn_range', Std.Legacy.Range.size, Nat.sub_zero, Nat.add_one_sub_one, Nat.div_one]
 have hin : ∀ j ∈ List.range' 0 n, j < xs.length := fun j hj => by rw [List.mem_range'_1] at hj; omega
 generalize List.range' 0 n = is at hin
 induction is with
 | nil => simp
 | cons j is ih =>
  have h1 := hin j List.mem_cons_self
  have p1 := part_one (P := P) he rfl (cs := xs.map (Value.int q)) (p := j * 1) (v := .int q xs[j]) (by simp [h1]) w
  have p2 : (Instr.checkKey em (d + 1) e (.int q xs[j])).run P w = .ok () w := MapKept.run_checkKey (d := .int q) (und_int he) (by simp [MapKept.IsKey]) em d
  have hs1 : (sizeOf e).run P w = .ok 1 w := hsz w
  simp only [List.forIn_cons, Sem.run_bind, hs1, Result.andThen_ok, p1, p2, Sem.run_pure]
  exact ih fun j hj => hin j (List.mem_cons_of_mem _ hj)
theorem keeps_arr {P : Program} {q : IntKind} {xs : List Int} (w : World) : (Instr.keyThatStays (.agg (xs.map (Value.int q)).toArray) (.agg (xs.map (Value.int q)).toArray)).run P w = .ok (.agg (xs.map (Value.int q)).toArray) w := by
 have h : Instr.sameBits 10000 (.agg (xs.map (Value.int q)).toArray) (.agg (xs.map (Value.int q)).toArray) = true := by
  unfold Instr.sameBits
  simp only [beq_self_eq_true, Bool.true_and, List.all_eq_true]
  intro p hp
  obtain ⟨i, hi, rfl⟩ := List.getElem_of_mem hp
  simp [Instr.sameBits]
 simp [Instr.keyThatStays, h]
theorem findAsk_arr {P : Program} {n : Nat} {q : IntKind} {T : TypeId} (hT : tym P (.arr n (.int q)) T = true) {y : Dat (.arr n (.int q))} {G : GW} {kv : Value} (hy : RepV (.arr n (.int q)) y G kv) {v : Ty} (z : Dat v) (w : World) : ∀ (es : List MapEntry) (m : List (Dat (.arr n (.int q)) × Dat v)) (i : Nat), es.length = m.length →
    (∀ (j : Nat) (e : MapEntry), es[j]? = some e → ∃ x, m[j]? = some x ∧ RepV (.arr n (.int q)) x.1 G e.key ∧ RepV v x.2 G e.val) →
    (mget m y = none ∧ (Instr.findAsking T kv es i).run P w = .ok none w ∧ mput m y z = m ++ [(y, z)] ∧ mdel m y = m) ∨
    ∃ j e x, es[j]? = some e ∧ m[j]? = some x ∧ x.1 = y ∧ e.key = kv ∧ (Instr.findAsking T kv es i).run P w = .ok (some (i + j, e.val)) w ∧ mget m y = some x.2 ∧ mput m y z = m.set j (y, z) ∧ mdel m y = m.eraseIdx j
 | [], m, i, hl, _ => by
  have : m = [] := List.eq_nil_of_length_eq_zero hl.symm
  subst this
  exact .inl ⟨rfl, by simp [Instr.findAsking], rfl, rfl⟩
 | e :: es, [], i, hl, _ => by simp at hl
 | e :: es, (a, b) :: m, i, hl, h => by
  obtain ⟨x, hx, h1, h2⟩ := h 0 e rfl
  cases hx
  obtain ⟨r, hr, hre⟩ := eqArr_run hT hy h1 9998 w
  have hr : (Op.equal T kv e.key).run P w = .ok r w := hr
  by_cases hay : a = y
  · subst hay
    have : r = true := hre.2 rfl
    subst this
    refine .inr ⟨0, e, (a, b), rfl, rfl, rfl, ?_, ?_, by simp [mget], by simp [mput], by simp [mdel]⟩
    · rw [(arr_key h1).1, (arr_key hy).1]
    · simp [Instr.findAsking, hr]
  · have hya : ¬ y = a := fun e => hay e.symm
    have : r = false := by cases r with
     | false => rfl
     | true => exact (hya (hre.1 rfl)).elim
    subst this
    have ih := findAsk_arr hT hy z w es m (i + 1) (by simpa using hl) (fun j e he => h (j + 1) e he)
    rcases ih with ⟨h3, h4, h5, h6⟩ | ⟨j, e', x, h3, h4, h5, hk, h6, h7, h8, h9⟩
    · exact .inl ⟨by simp [mget, hay, h3], by simp [Instr.findAsking, hr, h4], by simp [mput, hay, h5], by simp [mdel, hay, h6]⟩
    · refine .inr ⟨j + 1, e', x, h3, h4, h5, hk, ?_, by simp [mget, hay, h7], by simp [mput, hay, h8], by simp [mdel, hay, h9]⟩
      simp [Instr.findAsking, hr, h6]
      omega
end Go.Gv

/- Soundness of the evaluators, seventh part: maps, lengths, conversions, least and greatest, negation, extraction. -/
namespace Go.Gv
open Go
def keyVal : (t : Ty) → Dat t → Value
 | .int k, n => .int k n
 | .str, s => strV s
 | .bool, b => .bool b
 | _, _ => undef
theorem key_sat {t : Ty} (ht : keyTy0 t = true) {x : Dat t} {G : GW} {v : Value} (h : RepV t x G v) : v = keyVal t x := by
 cases t <;> first | (simp [keyTy0] at ht; done) | skip
 · have := h.to_one rfl; unfold Rep at this; simpa [keyVal] using this.1
 · have := h.to_one rfl; unfold Rep at this; simpa [keyVal] using this
 · have := h.to_one rfl; unfold Rep at this; simpa [keyVal] using this.1
def keyDesc : Ty → TypeDesc
 | .int k => .int k
 | .str => .string
 | _ => .bool
theorem tym_key {P : Program} {t : Ty} {T : TypeId} (ht : keyTy0 t = true) (h : tym P t T = true) : P.underlying T = some (keyDesc t) := by
 cases t <;> first | (simp [keyTy0] at ht; done) | skip
 · exact und_int h
 · exact und_bool h
 · exact und_str h
theorem sameNow_key {t : Ty} (ht : keyTy0 t = true) (x y : Dat t) : Instr.sameNow (keyDesc t) (keyVal t x) (keyVal t y) = some (decide (x = y)) := by
 cases t <;> first | (simp [keyTy0] at ht; done) | skip
 · simp [keyDesc, keyVal, Instr.sameNow]
   by_cases h : x = y <;> simp [h]
 · simp [keyDesc, keyVal, Instr.sameNow]
   cases x <;> cases y <;> rfl
 · simp only [keyDesc, keyVal, Instr.sameNow, strV]
   by_cases h : x = y
   · simp only [h, decide_true]
     exact congrArg some ((MapKept.bytes_beq _ _).2 rfl)
   · have e : ((⟨⟨x⟩⟩ : ByteArray) == ⟨⟨y⟩⟩) = false := Bool.eq_false_iff.2 fun hb => h (by have := (MapKept.bytes_beq _ _).1 hb; simpa using this)
     simp only [e, h, decide_false]
theorem key_isKey {t : Ty} (ht : keyTy0 t = true) (x : Dat t) : MapKept.IsKey (keyDesc t) (keyVal t x) := by
 cases t <;> first | (simp [keyTy0] at ht; done) | simp [keyDesc, keyVal, MapKept.IsKey, strV]
theorem checkKey_run {P : Program} {t : Ty} {T : TypeId} (ht : keyTy0 t = true) (h : tym P t T = true) (em : Bool) (x : Dat t) (w : World) : (Instr.checkKey em 10000 T (keyVal t x)).run P w = .ok () w :=
 MapKept.run_checkKey (tym_key ht h) (key_isKey ht x) em 9999
theorem findNow_spec {k v : Ty} (hk : keyTy0 k = true) (y : Dat k) (z : Dat v) {G : GW} : ∀ (es : List MapEntry) (m : List (Dat k × Dat v)) (i : Nat), es.length = m.length →
    (∀ (j : Nat) (e : MapEntry), es[j]? = some e → ∃ x, m[j]? = some x ∧ RepV k x.1 G e.key ∧ RepV v x.2 G e.val) →
    (mget m y = none ∧ Instr.findNow (keyDesc k) (keyVal k y) es i = some none ∧ mput m y z = m ++ [(y, z)]) ∨
    ∃ j e x, es[j]? = some e ∧ m[j]? = some x ∧ x.1 = y ∧ Instr.findNow (keyDesc k) (keyVal k y) es i = some (some (i + j, e.val)) ∧ mget m y = some x.2 ∧ mput m y z = m.set j (y, z)
 | [], m, i, hl, _ => by
  have : m = [] := List.eq_nil_of_length_eq_zero hl.symm
  subst this
  exact .inl ⟨rfl, rfl, rfl⟩
 | e :: es, [], i, hl, _ => by simp at hl
 | e :: es, (a, b) :: m, i, hl, h => by
  obtain ⟨x, hx, h1, h2⟩ := h 0 e rfl
  cases hx
  have hkey := key_sat hk h1
  have hsame := sameNow_key hk y a
  by_cases hay : a = y
  · subst hay
    refine .inr ⟨0, e, (a, b), rfl, rfl, rfl, ?_, by simp [mget], by simp [mput]⟩
    simp [Instr.findNow, hkey, hsame]
  · have hya : ¬ y = a := fun e => hay e.symm
    have ih := findNow_spec hk y z es m (i + 1) (by simpa using hl) (fun j e he => h (j + 1) e he)
    rcases ih with ⟨h3, h4, h5⟩ | ⟨j, e', x, h3, h4, h5, h6, h7, h8⟩
    · exact .inl ⟨by simp [mget, hay, h3], by simp [Instr.findNow, hkey, hsame, hya, h4], by simp [mput, hay, h5]⟩
    · refine .inr ⟨j + 1, e', x, h3, h4, h5, ?_, by simp [mget, hay, h7], by simp [mput, hay, h8]⟩
      simp [Instr.findNow, hkey, hsame, hya, h6]
      omega
theorem findNow_del {k v : Ty} (hk : keyTy0 k = true) (y : Dat k) {G : GW} : ∀ (es : List MapEntry) (m : List (Dat k × Dat v)) (i : Nat), es.length = m.length →
    (∀ (j : Nat) (e : MapEntry), es[j]? = some e → ∃ x, m[j]? = some x ∧ RepV k x.1 G e.key ∧ RepV v x.2 G e.val) →
    (Instr.findNow (keyDesc k) (keyVal k y) es i = some none ∧ mdel m y = m) ∨
    ∃ j e, es[j]? = some e ∧ Instr.findNow (keyDesc k) (keyVal k y) es i = some (some (i + j, e.val)) ∧ mdel m y = m.eraseIdx j
 | [], m, i, hl, _ => by
  have : m = [] := List.eq_nil_of_length_eq_zero hl.symm
  subst this
  exact .inl ⟨rfl, rfl⟩
 | e :: es, [], i, hl, _ => by simp at hl
 | e :: es, (a, b) :: m, i, hl, h => by
  obtain ⟨x, hx, h1, h2⟩ := h 0 e rfl
  cases hx
  have hkey := key_sat hk h1
  have hsame := sameNow_key hk y a
  by_cases hay : a = y
  · subst hay
    refine .inr ⟨0, e, rfl, ?_, by simp [mdel]⟩
    simp [Instr.findNow, hkey, hsame]
  · have hya : ¬ y = a := fun e => hay e.symm
    have ih := findNow_del hk y es m (i + 1) (by simpa using hl) (fun j e he => h (j + 1) e he)
    rcases ih with ⟨h4, h5⟩ | ⟨j, e', h3, h6, h8⟩
    · exact .inl ⟨by simp [Instr.findNow, hkey, hsame, hya, h4], by simp [mdel, hay, h5]⟩
    · refine .inr ⟨j + 1, e', h3, ?_, by simp [mdel, hay, h8]⟩
      simp [Instr.findNow, hkey, hsame, hya, h6]
      omega
theorem keyTy_cases {t : Ty} (h : keyTy t = true) : keyTy0 t = true ∨ ∃ n q, t = .arr n (.int q) := by
 unfold keyTy at h
 split at h
 · exact .inr ⟨_, _, rfl⟩
 · exact .inl h
theorem chk_run {P : Program} {t : Ty} {T : TypeId} (ht : keyTy t = true) (h : tym P t T = true) (em : Bool) {x : Dat t} {G : GW} {v : Value} (hv : RepV t x G v) (w : World) : (Instr.checkKey em 10000 T v).run P w = .ok () w := by
 rcases keyTy_cases ht with ht | ⟨n, q, rfl⟩
 · rw [key_sat ht hv]; exact checkKey_run ht h em x w
 · exact checkArr_run h hv em 9998 w
theorem keeps_run {P : Program} {t : Ty} (ht : keyTy t = true) {x : Dat t} {G : GW} {v : Value} (hv : RepV t x G v) (w : World) : (Instr.keyThatStays v v).run P w = .ok v w := by
 rcases keyTy_cases ht with ht | ⟨n, q, rfl⟩
 · rw [key_sat ht hv]; exact MapKept.run_keyThatStays (key_isKey ht x)
 · rw [(arr_key hv).1]; exact keeps_arr w
theorem find_spec {P : Program} {k v : Ty} {T : TypeId} (ht : keyTy k = true) (hT : tym P k T = true) {y : Dat k} {G : GW} {kv : Value} (hy : RepV k y G kv) (z : Dat v) (w : World) {es : List MapEntry} {m : List (Dat k × Dat v)} (hl : es.length = m.length)
    (h : ∀ (j : Nat) (e : MapEntry), es[j]? = some e → ∃ x, m[j]? = some x ∧ RepV k x.1 G e.key ∧ RepV v x.2 G e.val) :
    (mget m y = none ∧ (Instr.findKey T kv es).run P w = .ok none w ∧ mput m y z = m ++ [(y, z)] ∧ mdel m y = m) ∨
    ∃ j e x, es[j]? = some e ∧ m[j]? = some x ∧ x.1 = y ∧ e.key = kv ∧ (Instr.findKey T kv es).run P w = .ok (some (j, e.val)) w ∧ mget m y = some x.2 ∧ mput m y z = m.set j (y, z) ∧ mdel m y = m.eraseIdx j := by
 rcases keyTy_cases ht with ht | ⟨n, q, rfl⟩
 · rw [key_sat ht hy]
   rcases findNow_spec ht y z es m 0 hl h with ⟨h3, h4, h5⟩ | ⟨j, e, x, h3, h4, h5, h6, h7, h8⟩
   · rcases findNow_del ht y es m 0 hl h with ⟨_, h9⟩ | ⟨j, e, _, h6, _⟩
     · exact .inl ⟨h3, MapKept.run_findKey (tym_key ht hT) h4, h5, h9⟩
     · rw [h4] at h6; cases h6
   · rw [Nat.zero_add] at h6
     rcases findNow_del ht y es m 0 hl h with ⟨h9, _⟩ | ⟨j', e', _, h9, h10⟩
     · rw [h6] at h9; cases h9
     · rw [h6, Nat.zero_add] at h9
       simp only [Option.some.injEq, Prod.mk.injEq] at h9
       obtain ⟨rfl, _⟩ := h9
       obtain ⟨x', hx', hkk, _⟩ := h j e h3
       rw [h4] at hx'; cases hx'
       exact .inr ⟨j, e, x, h3, h4, h5, by rw [key_sat ht hkk, h5], MapKept.run_findKey (tym_key ht hT) h6, h7, h8, h10⟩
 · obtain ⟨e, hund, _, _⟩ := und_arr hT
   have hfk : ∀ (a : MapEntry) (l : List MapEntry), (Instr.findKey T kv (a :: l)).run P w = (Instr.findAsking T kv (a :: l) 0).run P w := fun a l => by
    simp [Instr.findKey, run_underlying hund, Instr.findNow, Instr.sameNow]
   rcases findAsk_arr hT hy z w es m 0 hl h with ⟨h3, h4, h5, h6⟩ | ⟨j, e, x, h3, h4, h5, hk, h6, h7, h8, h9⟩
   · refine .inl ⟨h3, ?_, h5, h6⟩
     cases es with
     | nil => simp [Instr.findKey, run_underlying hund, Instr.findNow]
     | cons a l => rw [hfk]; exact h4
   · refine .inr ⟨j, e, x, h3, h4, h5, hk, ?_, h7, h8, h9⟩
     rw [Nat.zero_add] at h6
     cases es with
     | nil => simp at h3
     | cons a l => rw [hfk]; exact h6
theorem mapRep_of {k v : Ty} {m : List (Dat k × Dat v)} {G : GW} {es : Array MapEntry} (h1 : es.size = m.length)
    (h2 : ∀ (i : Nat) (e : MapEntry), es[i]? = some e → ∃ x : Dat k × Dat v, m[i]? = some x ∧ Rep k x.1 G e.key.cells.toList ∧ (k.agg = true ↔ ∃ c, e.key = .agg c) ∧ Rep v x.2 G e.val.cells.toList ∧ (v.agg = true ↔ ∃ c, e.val = .agg c)) : MapRep k v m G es :=
 ⟨h1, fun i e he => let ⟨x, hx, r1, a1, r2, a2⟩ := h2 i e he; ⟨x, hx, ⟨a1, r1⟩, ⟨a2, r2⟩⟩⟩
theorem mpV_sat {hp : Nat → HObj} {β : Asg} {G : GW} (H : HeapSat hp β G) {k v : Ty} {X : AP} {m : List (Dat k × Dat v)} {u : Value} (h : mpV hp k v X = some m) (hs : sat X β G u) :
    (u = .map none ∧ m = []) ∨ ∃ b es c, u = .map (some b) ∧ G.w.heap[b]? = some (.map es c) ∧ MapRep k v m G es := by
 unfold mpV at h
 split at h
 · simp only [Option.some.injEq] at h; subst h
   unfold sat at hs
   exact .inl ⟨hs, rfl⟩
 · unfold castDat at h
   split at h
   · rename_i e; cases e
     simp only [Option.some.injEq] at h; subst h
     unfold sat at hs
     have := hs.to_one rfl
     unfold Rep at this
     obtain ⟨r, e, h1, h2⟩ := this
     simp only [List.cons.injEq, and_true] at e; subst e
     cases r with
     | none => exact .inl ⟨rfl, h1 rfl⟩
     | some b =>
      obtain ⟨es, c, _, hb, hsz, hx⟩ := h2 b rfl
      exact .inr ⟨b, es, c, rfl, hb, mapRep_of hsz hx⟩
   · cases h
 · split at h
   · rename_i hh
     unfold castDat at h
     split at h
     · rename_i e; cases e
       simp only [Option.some.injEq] at h; subst h
       unfold sat at hs
       obtain ⟨u', hu', hsat⟩ := H _ (by rw [hh]; simp)
       rw [hs.1] at hu'; cases hu'
       rw [hh] at hsat
       obtain ⟨b, es, c, rfl, h1, h2, _⟩ := hsat
       exact .inr ⟨b, es, c, rfl, h1, h2⟩
     · cases h
   · rename_i hh
     unfold castDat at h
     split at h
     · rename_i e; cases e
       simp only [Option.some.injEq] at h; subst h
       unfold sat at hs
       obtain ⟨u', hu', hsat⟩ := H _ (by rw [hh]; simp)
       rw [hs.1] at hu'; cases hu'
       rw [hh] at hsat
       obtain ⟨b, es, c, rfl, _, h1, _, h2⟩ := hsat
       exact .inr ⟨b, es, c, rfl, h1, h2⟩
     · cases h
   · cases h
 · cases h
theorem lookA_run {P : Program} {E : Env} (hE : E.ok P = true) {hp : Nat → HObj} {T : TypeId} {X Y ap : AP} {ok : Bool} (h : lookA E hp T X Y ok = some ap) {β : Asg} {G : GW} (H : HeapSat hp β G) {u v : Value} (hu : sat X β G u) (hw : sat Y β G v) :
    ∃ r, (Instr.lookup T u v ok).run P G.w = .ok r G.w ∧ sat ap β G r := by
 unfold lookA at h
 split at h
 · rename_i k v' nb ht
   obtain ⟨a, b, hum, hka, hvb⟩ := und_mp (Env.ty_ok hE ht).1
   split at h
   · rename_i m y hk hm hy
     have hye := toDat_rep H hy hw
     obtain ⟨z, hz, hz2, hz3⟩ := tym_zero hvb G.w
     have hzr : RepV v' (dflt v') G z := ⟨hz3, by rw [hz2]; exact Rep.zero v' G⟩
     have key : ∃ (r : Value) (o : Option (Dat v')), o = mget m y ∧ (∀ ok, (Instr.lookup T u v ok).run P G.w = .ok (if ok then .tuple #[r, .bool o.isSome] else r) G.w) ∧ RepV v' (o.getD (dflt v')) G r := by
      rcases mpV_sat H hm hu with ⟨rfl, rfl⟩ | ⟨bb, es, c, rfl, hb, hr⟩
      · have hnil : (Instr.findKey a v []).run P G.w = .ok none G.w := by
         rcases find_spec hk hka hye (dflt v') G.w (es := []) (m := []) rfl (fun j e he => by cases he) with ⟨_, h4, _⟩ | ⟨j, e, _, h3, _⟩
         · exact h4
         · cases h3
        exact ⟨z, none, rfl, fun ok => by cases ok <;> simp [Instr.lookup, run_underlying hum, chk_run hk hka _ hye, hnil, hz, Result.andThen], hzr⟩
      · rcases find_spec hk hka hye (dflt v') G.w (es := es.toList) (m := m) (by simpa using hr.1) (fun j e he => hr.2 j e (by simpa using he)) with ⟨h3, h4, h5, _⟩ | ⟨j, e', x, h3, h4, h5, _, h6, h7, h8, _⟩
        · exact ⟨z, none, h3.symm, fun ok => by cases ok <;> simp [Instr.lookup, run_underlying hum, MapKept.run_getObj_map hb, chk_run hk hka _ hye, h4, hz, Result.andThen], hzr⟩
        · obtain ⟨x', hx', _, hval⟩ := hr.2 j e' (by simpa using h3)
          rw [h4] at hx'; cases hx'
          exact ⟨e'.val, some x.2, h7.symm, fun ok => by cases ok <;> simp [Instr.lookup, run_underlying hum, MapKept.run_getObj_map hb, chk_run hk hka _ hye, h6, Result.andThen], hval⟩
     obtain ⟨r, o, rfl, hrun, hrep⟩ := key
     split at h
     · simp only [Option.some.injEq] at h; subst h
       exact ⟨_, hrun _, by simp only [Bool.false_eq_true, if_false]; unfold sat; exact hrep⟩
     · simp only [Option.some.injEq] at h; subst h
       refine ⟨_, hrun _, ?_⟩
       simp only [if_true]
       unfold sat
       refine ⟨[r, .bool (mget m y).isSome], rfl, ?_⟩
       unfold satT
       refine ⟨_, _, rfl, by unfold sat; exact hrep, ?_⟩
       unfold satT
       exact ⟨_, _, rfl, sat_dec_of (by simp), by unfold satT; rfl⟩
   · cases h
 · cases h
theorem rep_modify {k v : Ty} {m : List (Dat k × Dat v)} {G : GW} {es : Array MapEntry} (hr : MapRep k v m G es) {j : Nat} {y : Dat k} {z : Dat v} {kv zv : Value} (hy : RepV k y G kv) (hz : RepV v z G zv) :
    MapRep k v (m.set j (y, z)) G (es.modify j fun e => { e with key := kv, val := zv }) := by
 refine ⟨by simp [hr.1], fun i e he => ?_⟩
 rw [Array.getElem?_modify] at he
 split at he
 · rename_i hij
   subst hij
   rw [Option.map_eq_some_iff] at he
   obtain ⟨e0, he0, rfl⟩ := he
   have hlt : j < m.length := by rw [← hr.1]; exact (Array.getElem?_eq_some_iff.1 he0).1
   exact ⟨(y, z), by rw [List.getElem?_set_self hlt], hy, hz⟩
 · rename_i hij
   obtain ⟨x, hx, h1, h2⟩ := hr.2 i e he
   exact ⟨x, by rw [List.getElem?_set_ne hij]; exact hx, h1, h2⟩
theorem rep_push {k v : Ty} {m : List (Dat k × Dat v)} {G : GW} {es : Array MapEntry} (hr : MapRep k v m G es) {y : Dat k} {z : Dat v} {kv zv : Value} (hy : RepV k y G kv) (hz : RepV v z G zv) (c : Nat) :
    MapRep k v (m ++ [(y, z)]) G (es.push { key := kv, val := zv, born := c }) := by
 refine ⟨by simp [hr.1], fun i e he => ?_⟩
 rw [Array.getElem?_push] at he
 split at he
 · rename_i hij
   cases he
   exact ⟨(y, z), by rw [hij, hr.1]; simp, hy, hz⟩
 · obtain ⟨x, hx, h1, h2⟩ := hr.2 i e he
   exact ⟨x, by rw [List.getElem?_append_left (List.getElem?_eq_some_iff.1 hx).1]; exact hx, h1, h2⟩
theorem Step.setMap {hp : Nat → HObj} {β : Asg} {G : GW} (H : HeapOK hp β G) {h : Nat} {k v : Ty} {m : List (Dat k × Dat v)} {b : Nat} {es : Array MapEntry} {c : Nat} (hh : hp h = .map k v m) (hb : β h = some (.map (some b))) (ho : G.w.heap[b]? = some (.map es c)) (es' : Array MapEntry) (c' : Nat) :
    Step (fpc (hp h) (.map (some b))) (fpo (hp h) (.map (some b))) G { G with w := { G.w with heap := G.w.heap.setIfInBounds b (.map es' c') } } := by
 have hin : fpo (hp h) (.map (some b)) b := by rw [hh]; rfl
 have hne : ∀ b', b' ≠ b → (G.w.heap.setIfInBounds b (.map es' c'))[b']? = G.w.heap[b']? := fun b' hne => (MapKept.heap_set ho).2 b' hne
 have hcell : ∀ b' o, ({ G.w with heap := G.w.heap.setIfInBounds b (.map es' c') } : World).cell? ⟨b', o, none⟩ = G.w.cell? ⟨b', o, none⟩ ∧ ({ G.w with heap := G.w.heap.setIfInBounds b (.map es' c') } : World).frozen? ⟨b', o, none⟩ = G.w.frozen? ⟨b', o, none⟩ := by
  intro b' o
  by_cases e : b' = b
  · subst e
    simp only [World.cell?, World.frozen?, (MapKept.heap_set (o' := Obj.map es' c') ho).1, ho]
    exact ⟨trivial, trivial⟩
  · simp only [World.cell?, World.frozen?, hne b' e]
    exact ⟨trivial, trivial⟩
 exact {
  os := rfl
  tape := rfl
  output := rfl
  size := by simp
  cell := fun b' o _ _ => hcell b' o
  blk := fun b' _ _ hno => hne b' (fun e => hno (by subst e; exact hin))
  obj := fun b' es0 c0 hno he => (hne b' (fun e => hno (by subst e; exact hin))).trans he
  le := ⟨fun b' o hi => ⟨hi, (hcell b' o).1⟩, fun b' hi => ⟨hi, hne b' (fun e => (H.imo h _ hb b hin).1 (by subst e; exact hi))⟩⟩
  new := fun _ _ hi => .inl hi
  newo := fun _ hi => .inl hi
  drawn := .inl (Nat.le_refl _)
  nz := rfl }
theorem Born.push {es : Array MapEntry} {c : Nat} (h : Born es c) (k v : Value) : Born (es.push { key := k, val := v, born := c }) (c + 1) := by
 refine ⟨fun e he => ?_, ?_⟩
 · rw [Array.toList_push, List.mem_append] at he
   rcases he with he | he
   · have := h.1 e he; omega
   · rw [List.mem_singleton] at he; subst he; show c < c + 1; omega
 · rw [Array.toList_push, List.map_append, List.nodup_append]
   refine ⟨h.2, by simp, fun a ha b hb e => ?_⟩
   obtain ⟨x, hx, rfl⟩ := List.mem_map.1 ha
   have := h.1 x hx
   simp only [List.map_cons, List.map_nil, List.mem_singleton] at hb
   omega
theorem Born.modify {es : Array MapEntry} {c : Nat} (h : Born es c) (j : Nat) (f : MapEntry → MapEntry) (hf : ∀ e, (f e).born = e.born) : Born (es.modify j f) c := by
 have hm : (es.modify j f).toList.map (·.born) = es.toList.map (·.born) := by
  apply List.ext_getElem?
  intro i
  rw [List.getElem?_map, List.getElem?_map, Array.getElem?_toList, Array.getElem?_toList, Array.getElem?_modify]
  split
  · cases es[i]? <;> simp [hf]
  · rfl
 refine ⟨fun e he => ?_, by rw [hm]; exact h.2⟩
 have : e.born ∈ (es.modify j f).toList.map (·.born) := List.mem_map.2 ⟨e, he, rfl⟩
 rw [hm] at this
 obtain ⟨x, hx, e'⟩ := List.mem_map.1 this
 have := h.1 x hx
 omega
theorem mapUpdA_run {P : Program} {E : Env} (hE : E.ok P = true) {C : Ctx} {hp : Nat → HObj} {T : TypeId} {X Y Z : AP} {h : Nat} {ob : HObj} (he : mapUpdA E hp T X Y Z = some (h, ob)) {β : Asg} {G : GW} (H : HInv C hp β G) {u v z : Value} (hu : sat X β G u) (hv : sat Y β G v) (hz : sat Z β G z) :
    ∃ G', (Instr.mapUpdate T u v z).run P G.w = .ok () G'.w ∧ HInv C (hset hp [(h, ob)]) β G' ∧ G.le G' := by
 unfold mapUpdA at he
 split at he
 · rename_i k v' nb ht
   obtain ⟨a, b, hum, hka, hvb⟩ := und_mp (Env.ty_ok hE ht).1
   split at he
   · rename_i hn hk
     split at he
     · rename_i k0 v0 m hh
       split at he
       · rename_i m' y zz hm hy hzz
         simp only [Option.some.injEq, Prod.mk.injEq] at he; obtain ⟨rfl, rfl⟩ := he
         unfold castDat at hm
         split at hm
         · rename_i e; cases e
           simp only [Option.some.injEq] at hm; subst hm
           have hyr := toDat_rep H.hs hy hv
           have hzr := toDat_rep H.hs hzz hz
           unfold sat at hu
           obtain ⟨u', hu', hsat⟩ := H.heap.sat hn (by rw [hh]; simp)
           rw [hu.1] at hu'; cases hu'
           rw [hh] at hsat
           obtain ⟨bb, es, c, rfl, ho, hr, hbn⟩ := hsat
           have fin : ∀ (es' : Array MapEntry) (c' : Nat), MapRep k v' (mput m y zz) G es' → Born es' c' → (Instr.mapUpdate T (.map (some bb)) v z).run P G.w = .ok () { G.w with heap := G.w.heap.setIfInBounds bb (.map es' c') } →
               ∃ G', (Instr.mapUpdate T (.map (some bb)) v z).run P G.w = .ok () G'.w ∧ HInv C (hset hp [(hn, .map k v' (mput m y zz))]) β G' ∧ G.le G' := fun es' c' hr' hbn' hrun => by
            have hst := Step.setMap H.heap hh hu.1 ho es' c'
            refine ⟨{ G with w := { G.w with heap := G.w.heap.setIfInBounds bb (.map es' c') } }, hrun, H.write hn _ _ hu.1 (by simp) rfl rfl hst ⟨bb, es', c', rfl, (MapKept.heap_set ho).1, hr'.mono hst.le, hbn'⟩ (fun _ _ hf => by cases hf) (fun b hf => by rw [hh]; exact hf), hst.le⟩
           rcases find_spec hk hka hyr zz G.w (es := es.toList) (m := m) (by simpa using hr.1) (fun j e he => hr.2 j e (by simpa using he)) with ⟨h3, h4, h5, _⟩ | ⟨j, e', x, h3, h4, h5, hek, h6, h7, h8, _⟩
           · refine fin (es.push { key := v, val := z, born := c }) (c + 1) (by rw [h5]; exact rep_push hr hyr hzr c) (hbn.push _ _) ?_
             simp [Instr.mapUpdate, run_underlying hum, MapKept.run_getObj_map ho, chk_run hk hka _ hyr, h4, MapKept.run_setObj_map _ ho, Result.andThen]
           · refine fin (es.modify j fun e => { e with key := v, val := z }) c (by rw [h8]; exact rep_modify hr hyr hzr) (hbn.modify j _ (fun _ => rfl)) ?_
             have h3' : es[j]? = some e' := by simpa using h3
             simp [Instr.mapUpdate, run_underlying hum, MapKept.run_getObj_map ho, chk_run hk hka _ hyr, h6, h3', hek, keeps_run hk hyr, MapKept.run_setObj_map _ ho, Result.andThen]
         · cases hm
       · cases he
     · cases he
   · cases he
 · cases he
theorem rep_del {k v : Ty} {m : List (Dat k × Dat v)} {G : GW} {es : Array MapEntry} (hr : MapRep k v m G es) (j : Nat) : MapRep k v (m.eraseIdx j) G (es.eraseIdxIfInBounds j) := by
 have hl : ∀ i, (es.eraseIdxIfInBounds j)[i]? = es[if i < j then i else i + 1]? := fun i => by
  unfold Array.eraseIdxIfInBounds
  split
  · rename_i hj
    rw [Array.getElem?_eraseIdx]
    split <;> rfl
  · rename_i hj
    split
    · rfl
    · rename_i hij
      rw [Array.getElem?_eq_none (by omega), Array.getElem?_eq_none (by omega)]
 refine ⟨?_, fun i e he => ?_⟩
 · rw [List.length_eraseIdx, Array.eraseIdxIfInBounds]
   have := hr.1
   split
   · rw [Array.size_eraseIdx, if_pos (by omega)]; omega
   · rw [if_neg (by omega)]; omega
 · rw [hl] at he
   obtain ⟨x, hx, h1, h2⟩ := hr.2 _ e he
   refine ⟨x, ?_, h1, h2⟩
   rw [List.getElem?_eraseIdx]
   split at hx <;> rename_i hij
   · rw [if_pos hij]; exact hx
   · rw [if_neg hij]; exact hx
theorem Born.erase {es : Array MapEntry} {c : Nat} (h : Born es c) (j : Nat) : Born (es.eraseIdxIfInBounds j) c := by
 unfold Array.eraseIdxIfInBounds
 split
 · rename_i hj
   have hs : (es.eraseIdx j hj).toList = es.toList.eraseIdx j := by simp
   refine ⟨fun e he => h.1 e ?_, ?_⟩
   · rw [hs] at he; exact List.mem_of_mem_eraseIdx he
   · rw [hs]
     exact h.2.sublist ((List.eraseIdx_sublist _ _).map _)
 · exact h
theorem mapDelA_run {P : Program} {E : Env} (hE : E.ok P = true) {C : Ctx} {hp : Nat → HObj} {T : TypeId} {X Y : AP} {h : Nat} {ob : HObj} (he : mapDelA E hp T X Y = some (h, ob)) {β : Asg} {G : GW} (H : HInv C hp β G) {u v : Value} (hu : sat X β G u) (hv : sat Y β G v) (cats : Array TypeId) (hT : cats[0]? = some T) (ty : TypeId) :
    ∃ G', (Builtin.delete_ cats ty #[u, v]).run P G.w = .ok (.tuple #[]) G'.w ∧ HInv C (hset hp [(h, ob)]) β G' ∧ G.le G' := by
 unfold mapDelA at he
 split at he
 · rename_i k v' nb ht
   obtain ⟨a, b, hum, hka, hvb⟩ := und_mp (Env.ty_ok hE ht).1
   split at he
   · rename_i hn hk
     split at he
     · rename_i k0 v0 m hh
       split at he
       · rename_i m' y hm hy
         simp only [Option.some.injEq, Prod.mk.injEq] at he; obtain ⟨rfl, rfl⟩ := he
         unfold castDat at hm
         split at hm
         · rename_i e; cases e
           simp only [Option.some.injEq] at hm; subst hm
           have hyr := toDat_rep H.hs hy hv
           unfold sat at hu
           obtain ⟨u', hu', hsat⟩ := H.heap.sat hn (by rw [hh]; simp)
           rw [hu.1] at hu'; cases hu'
           rw [hh] at hsat
           obtain ⟨bb, es, c, rfl, ho, hr, hbn⟩ := hsat
           have fin : ∀ (es' : Array MapEntry), MapRep k v' (mdel m y) G es' → Born es' c → (Builtin.delete_ cats ty #[.map (some bb), v]).run P G.w = .ok (.tuple #[]) { G.w with heap := G.w.heap.setIfInBounds bb (.map es' c) } →
               ∃ G', (Builtin.delete_ cats ty #[.map (some bb), v]).run P G.w = .ok (.tuple #[]) G'.w ∧ HInv C (hset hp [(hn, .map k v' (mdel m y))]) β G' ∧ G.le G' := fun es' hr' hbn' hrun => by
            have hst := Step.setMap H.heap hh hu.1 ho es' c
            refine ⟨{ G with w := { G.w with heap := G.w.heap.setIfInBounds bb (.map es' c) } }, hrun, H.write hn _ _ hu.1 (by simp) rfl rfl hst ⟨bb, es', c, rfl, (MapKept.heap_set ho).1, hr'.mono hst.le, hbn'⟩ (fun _ _ hf => by cases hf) (fun b hf => by rw [hh]; exact hf), hst.le⟩
           rcases find_spec hk hka hyr (dflt v') G.w (es := es.toList) (m := m) (by simpa using hr.1) (fun j e he => hr.2 j e (by simpa using he)) with ⟨_, h4, _, h5⟩ | ⟨j, e', _, h3, _, _, _, h6, _, _, h8⟩
           · refine fin es (by rw [h5]; exact hr) hbn ?_
             simp [Builtin.delete_, hT, run_underlying hum, MapKept.run_getObj_map ho, chk_run hk hka _ hyr, h4, MapKept.run_setObj_map _ ho, Result.andThen]
           · refine fin (es.eraseIdxIfInBounds j) (by rw [h8]; exact rep_del hr j) (hbn.erase j) ?_
             simp [Builtin.delete_, hT, run_underlying hum, MapKept.run_getObj_map ho, chk_run hk hka _ hyr, h6, MapKept.run_setObj_map _ ho, Result.andThen]
         · cases hm
       · cases he
     · cases he
   · cases he
 · cases he
theorem HInv.freezeMap {C : Ctx} {hp : Nat → HObj} {β : Asg} {G : GW} (H : HInv C hp β G) {h : Nat} {k w : Ty} {m : List (Dat k × Dat w)} (hh : hp h = .map k w m) :
    ∃ G', G'.w = G.w ∧ G.le G' ∧ HInv C (hset hp [(h, .ob (.fm k w) m)]) β G' := by
 obtain ⟨v, hv, hs⟩ := H.heap.sat h (by rw [hh]; simp)
 let G' : GW := { w := G.w, im := G.im, imo := fun b => G.imo b ∨ fpo (hp h) v b, nz := G.nz }
 have hle : G.le G' := ⟨fun b i hi => ⟨hi, rfl⟩, fun b hi => ⟨.inl hi, rfl⟩⟩
 have hst : Step (fpc (hp h) v) (fpo (hp h) v) G G' := ⟨rfl, rfl, rfl, Nat.le_refl _, fun _ _ _ _ => ⟨rfl, rfl⟩, fun _ _ _ _ => rfl, fun _ _ _ _ h => h, hle, fun b i hi => .inl hi, fun b hi => hi.elim .inl (fun h => .inr (.inl h)), .inl (Nat.le_refl _), rfl⟩
 rw [hh] at hs
 obtain ⟨bb, es, c, rfl, h1, h2, h3⟩ := hs
 have hfo : ∀ b, fpo (hp h) (.map (some bb)) b ↔ b = bb := fun b => by rw [hh]; exact Iff.rfl
 have holdo : ∀ b, G'.imo b → ∃ o, G'.w.heap[b]? = some o ∧ ImObj o := fun b hi => hi.elim (H.heap.oldo b) (fun hf => by
  rw [hfo] at hf; subst hf; exact ⟨_, h1, .inl ⟨es, c, rfl⟩⟩)
 refine ⟨G', rfl, hle, ⟨H.heap.gen (fun n => n = h) hst (Asg.le_refl β) (fun n hne => ⟨by simp [hset, hne], rfl⟩) (fun b i hf => ⟨h, _, rfl, hv, hf⟩) (fun b hf => ⟨h, _, rfl, hv, hf⟩)
  (fun n e hno => by subst e; simp [hset] at hno) (fun n e _ => ?_) (fun n u e hu b i hf => by subst e; simp [hset, fpc, obF] at hf) (fun n u e hu b hf => by subst e; simp [hset, fpo, obFo] at hf)
  (fun n n' _ _ e e' hne => (hne (e.trans e'.symm)).elim) (fun n n' _ _ e e' hne => (hne (e.trans e'.symm)).elim) (fun b o hi => H.heap.old b o hi) holdo, ?_, ?_, ?_, ?_⟩⟩
 · subst e
   refine ⟨_, hv, ?_⟩
   simp only [hset, if_true]
   exact ⟨bb, es, c, rfl, .inr ((hfo bb).2 rfl), h1, h3, h2.mono hle⟩
 · exact H.step.trans hst (fun b o hf => H.own h _ hv b o hf) (fun b hf => H.owno h _ hv b hf)
 · intro n u hu b i hf
   by_cases e : n = h
   · subst e; simp [hset, fpc, obF] at hf
   · simp [hset, e] at hf; exact H.own n u hu b i hf
 · intro n u hu b hf
   by_cases e : n = h
   · subst e; simp [hset, fpo, obFo] at hf
   · simp [hset, e] at hf; exact H.owno n u hu b hf
 · exact fun g t x hx => (H.glob g t x hx).mono hle
theorem range_im {P : Program} {C : Ctx} {hp : Nat → HObj} {β : Asg} {G : GW} (H : HInv C hp β G) {T a b : TypeId} (hum : P.underlying T = some (.map a b)) {k v : Ty} {m : List (Dat k × Dat v)} {bb : Nat} {es : Array MapEntry} {c : Nat} (hi : G.imo bb) (ho : G.w.heap[bb]? = some (.map es c)) (hbn : Born es c) (hr : MapRep k v m G es) {nx : Nat} (hn : hp nx = .none) (d : Dat k × Dat v) :
    ∃ u β' G', (Instr.range T (.map (some bb))).run P G.w = .ok u G'.w ∧ HInv C (hset hp [(nx, .ob (.mit k v) (m, d, False))]) β' G' ∧ β.le β' ∧ G.le G' ∧ β' nx = some u ∧ u.oneCell' = true := by
 have hst := GW.alloc_step H.heap (.mapIter (some bb) c #[] c) (fun _ => False) False
 have hlt : bb < G.w.heap.size := (Array.getElem?_eq_some_iff.1 ho).1
 obtain ⟨h1, h2⟩ := H.alloc_own (.mapIter (some bb) c #[] c) (fun _ => False) False (fun h => h.elim) nx (.ob (.mit k v) (m, d, False)) (.pointer (some ⟨G.w.heap.size, 0, none⟩)) hn (by simp)
  ⟨G.w.heap.size, rfl, .inr ⟨bb, es, c, #[], by show (G.w.heap.push _)[G.w.heap.size]? = _; simp, .inl hi, (heap_alloc_lt _ _ _ hlt).trans ho, hbn, by
   have : es.filter (fun e => !(#[] : Array Nat).contains e.born) = es := Array.filter_eq_self.2 (fun _ _ => by simp)
   rw [this]; exact hr.mono hst.le, fun h => h.elim⟩⟩
  (fun b i hf => ⟨hf, fun h => h⟩) (fun b hf => ⟨hf, fun h => h⟩)
 refine ⟨.pointer (some ⟨G.w.heap.size, 0, none⟩), _, _, ?_, h1, h2, hst.le, by simp, rfl⟩
 simp [Instr.range, run_underlying hum, MapKept.run_getObj_map ho, GW.alloc, run_newObj]
theorem rangeA_run {P : Program} {E : Env} (hE : E.ok P = true) {C : Ctx} {hp : Nat → HObj} {nx : Nat} {T : TypeId} {X : AP} {out : Out} (he : rangeA E hp nx T X = some out) {β : Asg} {G : GW} (H : HInv C hp β G) (hn : hp nx = .none) {u : Value} (hu : sat X β G u) : Res P C hp β G (Instr.range T u) out := by
 unfold rangeA at he
 split at he
 · rename_i k v nb ht
   obtain ⟨a, b, hum, hka, hvb⟩ := und_mp (Env.ty_ok hE ht).1
   split at he
   · simp only [Option.some.injEq] at he; subst he
     unfold sat at hu; subst hu
     have hst := GW.alloc_step H.heap (.mapIter none 0 #[] 0) (fun _ => False) False
     obtain ⟨h1, h2⟩ := H.alloc_own (.mapIter none 0 #[] 0) (fun _ => False) False (fun h => h.elim) nx (.ob (.mit k v) ([], (dflt k, dflt v), False)) (.pointer (some ⟨G.w.heap.size, 0, none⟩)) hn (by simp)
      ⟨G.w.heap.size, rfl, .inl ⟨rfl, fun h => h, 0, #[], 0, by show (G.w.heap.push _)[G.w.heap.size]? = _; simp⟩⟩
      (fun b i hf => ⟨hf, fun h => h⟩) (fun b hf => ⟨hf, fun h => h⟩)
     refine ⟨.pointer (some ⟨G.w.heap.size, 0, none⟩), _, _, ?_, h1, h2, hst.le, by unfold sat; exact ⟨by simp, rfl⟩⟩
     simp [Instr.range, run_underlying hum, GW.alloc, run_newObj]
   · rename_i h
     unfold sat at hu
     split at he
     · rename_i k0 v0 m hh
       split at he
       · rename_i m' hm
         simp only [Option.some.injEq] at he; subst he
         unfold castDat at hm
         split at hm
         · rename_i e; cases e
           simp only [Option.some.injEq] at hm; subst hm
           obtain ⟨u', hu', hsat⟩ := H.heap.sat h (by rw [hh]; simp)
           rw [hu.1] at hu'; cases hu'
           obtain ⟨G1, e1, l1, H1⟩ := H.freezeMap hh
           obtain ⟨u', hu', hsat'⟩ := H1.heap.sat h (by simp [hset])
           rw [hu.1] at hu'; cases hu'
           simp only [hset, if_true] at hsat'
           obtain ⟨bb, es, c, rfl, q1, q2, q3, q4⟩ := hsat'
           have hne : nx ≠ h := fun e => by subst e; rw [hn] at hh; cases hh
           obtain ⟨w, β', G', r1, r2, r3, r4, r5, r6⟩ := range_im (P := P) H1 hum q1 q2 q3 q4 (nx := nx) (by simp [hset, hne, hn]) (dflt k, dflt v)
           rw [e1] at r1
           exact ⟨w, β', G', r1, r2, r3, GW.le_trans l1 r4, by unfold sat; exact ⟨r5, r6⟩⟩
         · cases hm
       · cases he
     · rename_i k0 v0 m hh
       split at he
       · rename_i m' hm
         simp only [Option.some.injEq] at he; subst he
         unfold castDat at hm
         split at hm
         · rename_i e; cases e
           simp only [Option.some.injEq] at hm; subst hm
           obtain ⟨u', hu', hsat'⟩ := H.heap.sat h (by rw [hh]; simp)
           rw [hu.1] at hu'; cases hu'
           rw [hh] at hsat'
           obtain ⟨bb, es, c, rfl, q1, q2, q3, q4⟩ := hsat'
           obtain ⟨w, β', G', r1, r2, r3, r4, r5, r6⟩ := range_im (P := P) H hum q1 q2 q3 q4 hn (dflt k, dflt v)
           exact ⟨w, β', G', r1, r2, r3, r4, by unfold sat; exact ⟨r5, r6⟩⟩
         · cases hm
       · cases he
     · cases he
   · cases he
 · cases he
theorem find_stamp (e : MapEntry) : ∀ (l : List MapEntry), (l.map (·.born)).Nodup → e ∈ l → l.find? (·.born == e.born) = some e
 | x :: l, hn, he => by
  have hn' : x.born ∉ l.map (·.born) ∧ (l.map (·.born)).Nodup := List.nodup_cons.1 hn
  rcases List.mem_cons.1 he with rfl | h
  · simp
  · have hx : (x.born == e.born) = false := by
     cases hc : x.born == e.born with
     | false => rfl
     | true => exact absurd (by rw [beq_iff_eq.1 hc]; exact List.mem_map.2 ⟨e, h, rfl⟩) hn'.1
    rw [List.find?_cons, hx]
    exact find_stamp e l hn'.2 h
theorem entryA_run {P : Program} {C : Ctx} {hp : Nat → HObj} {X : AP} {vc : List Prop} {ap : AP} (he : entryA hp X = some (vc, ap)) {β : Asg} {G : GW} (H : HInv C hp β G) {u : Value} (hu : sat X β G u) (hv : ∀ p ∈ vc, p) :
    ∃ w, (Instr.entry u).run P G.w = .ok w G.w ∧ sat ap β G w := by
 unfold entryA at he
 split at he
 · rename_i h
   unfold sat at hu
   split at he
   · rename_i k v x hh
     simp only [Option.some.injEq, Prod.mk.injEq] at he; obtain ⟨rfl, rfl⟩ := he
     obtain ⟨u', hu', hsat⟩ := H.heap.sat h (by rw [hh]; simp)
     rw [hu.1] at hu'; cases hu'
     rw [hh] at hsat
     obtain ⟨left, y, q⟩ := x
     have hq : q := hv _ List.mem_cons_self
     obtain ⟨r, rfl, hsat⟩ := hsat
     rcases hsat with ⟨_, hnq, _⟩ | ⟨b, es, c, seen, h1, h2, h3, h4, h5, h6⟩
     · exact (hnq hq).elim
     · obtain ⟨e, k1, k2, k3, k4⟩ := h6 hq
       refine ⟨.tuple #[e.key, e.val], ?_, ?_⟩
       · have hf : es.find? (·.born == e.born) = some e := by rw [← Array.find?_toList]; exact find_stamp e es.toList h4.2 k1
         have g1 : (getObj r).run P G.w = .ok (.mapIter (some b) c seen c) G.w := by simp [getObj, Sem.run, h1]
         have g2 : (getObj b).run P G.w = .ok (.map es c) G.w := by simp [getObj, Sem.run, h3]
         simp [Instr.entry, g1, g2, k2, hf, Result.andThen]
       · unfold sat
         refine ⟨[e.key, e.val], rfl, ?_⟩
         unfold satT
         refine ⟨_, _, rfl, by unfold sat; exact k3, ?_⟩
         unfold satT
         refine ⟨_, _, rfl, by unfold sat; exact k4, ?_⟩
         unfold satT; rfl
   · cases he
 · cases he
end Go.Gv

/- Soundness of the evaluators, eighth part: parts of own rows, what is appended to nil, capacities. -/
namespace Go.Gv
open Go
theorem capA_run {P : Program} {E : Env} (hE : E.ok P = true) {T ty : TypeId} {ats : Array TypeId} (a0 : ats[0]? = some T) {X ap : AP} (h : capA E T X = some ap) {β : Asg} {G : GW} {u : Value} (hu : sat X β G u) :
    ∃ r, (Builtin.cap_ ats ty #[u]).run P G.w = .ok r G.w ∧ sat ap β G r := by
 unfold capA at h
 split at h
 · rename_i t nb ht
   obtain ⟨e, hue, _, _⟩ := und_sl (Env.ty_ok hE ht).1
   simp only [Option.some.injEq] at h; subst h
   unfold sat at hu; subst hu
   refine ⟨.int .i64 0, ?_, sat_int (has_iff.2 ⟨by simp only [lo]; omega, by simp only [hi]; omega⟩)⟩
   simp [Builtin.cap_, a0, run_underlying hue, goInt]
 · cases h
theorem appendW_run {P : Program} {E : Env} (hE : E.ok P = true) {C : Ctx} {hp : Nat → HObj} {nx : Nat} {rw : Bool} {T T2 ty : TypeId} {ats : Array TypeId} (a0 : ats[0]? = some T) (a1 : ats[1]? = some T2) {X Y : AP} {out : Out} {β : Asg} {G : GW} (H : HInv C hp β G) (hn : hp nx = .none)
    (he : appendW E hp nx rw T T2 X Y = some out) (hv : ∀ p ∈ out.vc, p) {u v : Value} (hu : sat X β G u) (hw : sat Y β G v) : Res P C hp β G (Builtin.append_ ats ty #[u, v]) out := by
 unfold appendW at he
 split at he
 · rename_i k2 nb2 ht2
   split at he
   · rename_i t nb kn n ht
     obtain ⟨e, hue, hte, _⟩ := und_sl (Env.ty_ok hE ht).1
     have hue2 := und_int (Env.ty_ok hE ht2).1
     simp only [Option.some.injEq] at he; subst he
     unfold sat at hu; subst hu
     obtain ⟨rfl, hn1⟩ := int_sat hw
     have hn0 : (0 : Int) ≤ n := hv _ (by simp)
     have hrm : room n (t.size * 64) := hv _ (by simp)
     obtain ⟨k, rfl⟩ : ∃ k : Nat, n = (k : Int) := ⟨n.toNat, (Int.toNat_of_nonneg hn0).symm⟩
     have hsame : (Builtin.append_ ats ty #[.slice none 0 0, .int kn k]).run P G.w = (Builtin.append_ #[T, T2] ty #[.slice none 0 0, .int kn k]).run P G.w := by
      simp [Builtin.append_, a0, a1]
     obtain ⟨ie, hie, hie1, hie2⟩ := tym_info hte
     have hpos := tym_pos hte
     have hroom := room_nat (n := k) (b := t.size) hrm
     obtain ⟨z, hz, hz2, _⟩ := tym_zero hte G.w
     rcases Nat.eq_zero_or_pos k with rfl | hk
     · refine ⟨.slice none 0 0, _, G, ?_, H.name hn (.row t []) (.slice none 0 0) (by simp) nil_slice_sat' (fun _ _ h => h) (fun _ h => h), asg_le H.heap hn _, G.le_refl, by unfold sat; exact ⟨by simp, rfl⟩⟩
       rw [hsame]
       have hw0 : IntKind.i64.wrap 0 = 0 := by rw [IntKind.wrap_i64]; omega
       simp [Builtin.append_, run_underlying hue, run_underlying hue2, asInt, asIntOf, hw0, tym_size hte, typeInfo, hie]
     · have hzz : ie.zero = some z := by
        have := hz
        simp only [zeroValue, Sem.run_bind, typeInfo] at this
        cases hz0 : ie.zero with
        | none => simp [hie, hz0] at this
        | some z' => simp [hie, hz0] at this; rw [this]
       have hsz : ie.size = t.size := by
        have := tym_size hte G.w
        simpa [Go.sizeOf, typeInfo, hie] using this
       have hb1 : k * ie.bytes ≤ 140737488355328 := Nat.le_trans (Nat.mul_le_mul_left _ hie2) hroom
       have hkb : k ≤ 140737488355328 := Nat.le_trans (Nat.le_mul_of_pos_right _ (by omega)) hroom
       have h := Lib.run_append_grow_zeros (P := P) G.w T T2 ty e ie z kn k2 hue hue2 hie hzz none 0 0 [] rfl k hk (by rw [hsz]; exact hpos) (by omega) (by omega) (by omega) (by have := growslice_fits (need := 0 + k) (old := 0) (bytes := ie.bytes) (by omega) (by rw [Nat.zero_add]; exact hb1); omega)
       rw [Nat.zero_add] at h
       have hge := grownCap_ge G.w k 0 e
       have hcm := grownCap_le_maxLen G.w k 0 e (by simp only [maxLen]; omega)
       obtain ⟨gc, hgc⟩ : ∃ gc, gc = grownCap G.w k 0 e := ⟨_, rfl⟩
       rw [← hgc] at h hge hcm
       have hzl : z.cells.toList.length = t.size := by rw [hz2]; exact Rep.length t (Rep.zero t G)
       have hzs : z.cells.size = t.size := by simpa using hzl
       have hcs : ((([] : List Value).toArray ++ Builtin.zeroCells z.cells k ++ Builtin.zeroCells z.cells (gc - k)) : Array Value) = (Array.range (gc * t.size)).map (fun j => z.cells[j % z.cells.size]!) := by
        apply Array.ext_getElem?
        intro j
        have hsplit : k * t.size + (gc - k) * t.size = gc * t.size := by rw [← Nat.add_mul]; congr 1; omega
        rw [show (([] : List Value).toArray) = #[] from rfl, Array.empty_append]
        simp only [Builtin.zeroCells, hzs]
        by_cases h1 : j < k * t.size
        · rw [Array.getElem?_append_left (by simpa using h1)]
          simp only [Array.getElem?_map, Array.getElem?_range, h1, if_true]
          rw [if_pos (by omega)]
        · rw [Array.getElem?_append_right (by simpa using Nat.le_of_not_lt h1)]
          simp only [Array.size_map, Array.size_range, Array.getElem?_map, Array.getElem?_range]
          by_cases h2 : j < gc * t.size
          · rw [if_pos (by omega), if_pos h2]
            simp only [Option.map_some]
            congr 2
            rw [show j = j - k * t.size + k * t.size by omega, Nat.add_mul_mod_self_right, Nat.add_sub_cancel]
          · rw [if_neg (by omega), if_neg h2]
       rw [hcs] at h
       obtain ⟨β', h5, h6, h7⟩ := alloc_row H.drew ((Array.range (gc * t.size)).map (fun j => z.cells[j % z.cells.size]!)) e t (List.replicate k (dflt t)) gc hn (by simp) (by rw [List.length_replicate]; exact hge) hcm (fun i x hx => by
        have hi : i < k := by have := (List.getElem?_eq_some_iff.1 hx).1; simpa using this
        have hxe : x = dflt t := by have := (List.getElem?_eq_some_iff.1 hx).2; simpa using this.symm
        rw [hxe]
        have := rep_part (G := { G with w := G.w.drew }) (t := t) gc z.cells.toList hzl (by rw [hz2]; exact Rep.zero t _) i (by omega)
        simpa using this)
       rw [List.length_replicate] at h7
       refine ⟨_, β', _, hsame.trans h, ?_, h6, GW.le_trans (GW.le_drew G) (GW.alloc_step H.drew.heap _ _ _).le, h7⟩
       simpa using h5
   · cases he
 · split at he
   · rename_i t nb ht
     obtain ⟨e, hue, hte, _⟩ := und_sl (Env.ty_ok hE ht).1
     have hpos := tym_pos hte
     split at he
     · rename_i ys hys
       obtain ⟨M, hX, hMr⟩ := elemsT_run hE H.hs hys hw
       have hM := hX.hM
       simp only [Option.some.injEq] at he; subst he
       unfold sat at hu; subst hu
       have hroom := room_nat (hv _ List.mem_cons_self)
       rcases append_run (P := P) (e := e) ty a0 a1 hue hte G.w none v 0 0 ys.length [] M hX (Nat.le_refl _) (fun _ => rfl) (by simp) (fun a h => by cases h) (fun _ a h => by cases h) (by rw [Nat.zero_add]; exact hroom) with ⟨_, h1, h2⟩ | ⟨_, _, a, h1, _⟩ | ⟨_, nc, rest, h1, h2, h3, h4⟩
       · have hy0 : ys = [] := List.eq_nil_of_length_eq_zero h1
         subst hy0
         exact ⟨_, _, G, h2, H.name hn (.row t []) (.slice none 0 0) (by simp) nil_slice_sat' (fun _ _ h => h) (fun _ h => h), asg_le H.heap hn _, G.le_refl, by unfold sat; exact ⟨by simp, rfl⟩⟩
       · cases h1
       · rw [Nat.zero_add] at h1 h2 h4
         obtain ⟨β', h5, h6, h7⟩ := alloc_row H.drew ([] ++ M ++ rest).toArray e t ys nc hn (by simp [hM, h4, Nat.sub_mul]; have := Nat.mul_le_mul_right t.size h2; omega) h2 h3 (fun i x hx => by
          have := rep_append (G := { G with w := G.w.drew }) (rest := rest) (xs := []) (ys := ys) (L := []) (by simp) hM (fun i x h => by simp at h) (fun i x h => Rep.mono t (hMr i x h) (GW.le_drew G)) i x (by simpa using hx)
          simpa using this)
         exact ⟨_, β', _, h1, h5, h6, GW.le_trans (GW.le_drew G) (GW.alloc_step H.drew.heap _ _ _).le, h7⟩
     · cases he
   · exact appendV_run hE a0 a1 H hn he hv hu hw
where
 nil_slice_sat' {t : Ty} {β : Asg} {G : GW} : satH (.row t []) (.slice none 0 0) β G := ⟨none, 0, rfl, Nat.le_refl _, Nat.zero_le _, fun _ => rfl, fun _ h => by cases h⟩
theorem partW_run {P : Program} {E : Env} (hE : E.ok P = true) {C : Ctx} {hp : Nat → HObj} {nx : Nat} {T : TypeId} {X : AP} {lo hi mx : Option AP} {out : Out} {β : Asg} {G : GW} (H : HInv C hp β G) (hn : hp nx = .none)
    (he : partW E hp nx T X lo hi mx = some out) (hv : ∀ p ∈ out.vc, p) {v : Value} {ol oh om : Option Value} (hu : sat X β G v) (bl : Bnd β G lo ol) (bh : Bnd β G hi oh) (bm : Bnd β G mx om) (hmh : mx ≠ none → hi ≠ none) : Res P C hp β G (Instr.sliceAt T v ol oh om) out := by
 unfold partW at he
 split at he
 · rename_i t nb ht
   obtain ⟨e, hue, hte, _⟩ := und_sl (Env.ty_ok hE ht).1
   split at he
   · rename_i a b ha hb
     simp only [Option.some.injEq] at he; subst he
     unfold sat at hu; subst hu
     have h0 : 0 ≤ a := hv _ (by simp [vcPart])
     have h1 : a ≤ b := hv _ (by simp [vcPart])
     have h2 : b ≤ 0 := hv _ (by simp [vcPart])
     have hbr := bounds_run (P := P) true 0 0 bl bh bm (m := 0) ha hb (Nat.le_refl _) h0 h1 h2 (.inl ⟨rfl, rfl⟩) G.w
     have e3 := bm.nn rfl; subst e3
     have ea : a = 0 := by omega
     have eb : b = 0 := by omega
     subst ea; subst eb
     refine Res.pure H (v := .slice none 0 0) ?_ (by unfold sat; rfl)
     simp only [Instr.sliceAt, Sem.run_bind, underlying, run_program, Result.andThen_ok, hue, Sem.run_pure, Instr.slice, hbr, tym_size hte]
     rfl
   · cases he
 · rename_i t nb h ht
   split at he
   · rename_i u xs hh
     obtain ⟨e, hue, hte, _⟩ := und_sl (Env.ty_ok hE ht).1
     split at he
     · rename_i a b hd ha hb
       have hd := of_decide_eq_true hd; subst hd
       simp only [Option.some.injEq] at he; subst he
       unfold sat at hu
       obtain ⟨hbv, hone⟩ := hu
       obtain ⟨u', hu', hsat⟩ := H.heap.sat h (by rw [hh]; simp)
       rw [hbv] at hu'; cases hu'
       rw [hh] at hsat
       obtain ⟨base, cap, rfl, c1, c2, c3, c4⟩ := hsat
       have h0 : 0 ≤ a := hv _ (by simp [vcPart])
       have h1 : a ≤ b := hv _ (by simp [vcPart])
       have h2 : b ≤ xs.length := hv _ (by simp [vcPart])
       have hbr := bounds_run (P := P) true xs.length cap bl bh bm (m := cap) ha hb c1 h0 h1 h2 (.inl ⟨rfl, rfl⟩) G.w
       obtain ⟨aN, rfl⟩ : ∃ k : Nat, a = (k : Int) := ⟨a.toNat, (Int.toNat_of_nonneg h0).symm⟩
       obtain ⟨bN, rfl⟩ : ∃ k : Nat, b = (k : Int) := ⟨b.toNat, (Int.toNat_of_nonneg (by omega)).symm⟩
       have h1' : aN ≤ bN := by omega
       have h2' : bN ≤ xs.length := by omega
       have hrun : (Instr.sliceAt T (.slice base xs.length cap) ol oh om).run P G.w = .ok (.slice (if cap = aN then base else base.map (·.add (aN * u.size))) (bN - aN) (cap - aN)) G.w := by
        simp only [Instr.sliceAt, Sem.run_bind, underlying, run_program, Result.andThen_ok, hue, Sem.run_pure, Instr.slice, hbr, tym_size hte, Int.toNat_natCast]
       have hlen : ((xs.take bN).drop aN).length = bN - aN := by rw [List.length_drop, List.length_take]; omega
       have hin : ∀ bb i, fpc (.row u ((xs.take bN).drop aN)) (.slice (if cap = aN then base else base.map (·.add (aN * u.size))) (bN - aN) (cap - aN)) bb i → fpc (hp h) (.slice base xs.length cap) bb i := fun bb i hf => by
        rw [hh]
        have hmul : aN * u.size + (cap - aN) * u.size = cap * u.size := by rw [← Nat.add_mul]; congr 1; omega
        by_cases hca : cap = aN
        · rw [if_pos hca] at hf
          cases base with
          | none => exact hf
          | some ad =>
           obtain ⟨f1, f2, f3⟩ := hf
           rw [show cap - aN = 0 by omega, Nat.zero_mul] at f3
           omega
        · rw [if_neg hca] at hf
          cases base with
          | none => exact hf
          | some ad =>
           have hsp := (c4 ad rfl).1 (by omega)
           simp only [Option.map_some, addr_add ad hsp] at hf
           obtain ⟨f1, f2, f3⟩ := hf
           dsimp only at f1 f2 f3
           exact ⟨f1, by omega, by omega⟩
       have hsat2 : ∀ β2 : Asg, satH (.row u ((xs.take bN).drop aN)) (.slice (if cap = aN then base else base.map (·.add (aN * u.size))) (bN - aN) (cap - aN)) β2 G := fun β2 => by
        refine ⟨_, cap - aN, by rw [hlen], by rw [hlen]; omega, by omega, fun hb0 => ?_, fun ad' had => ?_⟩
        · by_cases hca : cap = aN
          · omega
          · rw [if_neg hca] at hb0
            cases base with
            | none => have := c3 rfl; omega
            | some ad => simp at hb0
        · by_cases hca : cap = aN
          · rw [if_pos hca] at had
            refine ⟨fun hc0 => by omega, fun j hj => ?_, fun i x hx => ?_⟩
            · rw [show cap - aN = 0 by omega, Nat.zero_mul] at hj; omega
            · have := (List.getElem?_eq_some_iff.1 hx).1
              rw [hlen] at this; omega
          · rw [if_neg hca] at had
            cases base with
            | none => simp at had
            | some ad =>
             have hsp := (c4 ad rfl).1 (by omega)
             simp only [Option.map_some, addr_add ad hsp, Option.some.injEq] at had
             subst had
             have hmul : aN * u.size + (cap - aN) * u.size = cap * u.size := by rw [← Nat.add_mul]; congr 1; omega
             refine ⟨fun _ => rfl, fun j hj => ?_, fun i x hx => ?_⟩
             · have := (c4 ad rfl).2.1 (aN * u.size + j) (by omega)
               rwa [← Nat.add_assoc] at this
             · rw [List.getElem?_drop, List.getElem?_take] at hx
               split at hx
               · obtain ⟨cells, hc, hr⟩ := (c4 ad rfl).2.2 _ x hx
                 refine ⟨cells, fun j w hw => ?_, hr⟩
                 have := hc j w hw
                 rwa [show ad.off + (aN + i) * u.size = ad.off + aN * u.size + i * u.size by rw [Nat.add_mul]; omega] at this
               · cases hx
       obtain ⟨h5, h6⟩ := H.move h nx (.slice base xs.length cap) _ (.row u ((xs.take bN).drop aN)) hbv hn (by simp) (Step.refl _ _ G) (hsat2 _)
        (fun bb i hf => ⟨.inl (hin bb i hf), H.heap.im h _ hbv bb i (hin bb i hf)⟩) (fun bb hf => by cases hf) H.heap.old H.heap.oldo
       refine ⟨_, _, G, hrun, h5, h6, G.le_refl, by unfold sat; exact ⟨by simp, rfl⟩⟩
     · cases he
   · exact partOfA_run hE H hn he hv hu bl bh bm hmh
 · exact partOfA_run hE H hn he hv hu bl bh bm hmh
end Go.Gv

/- Soundness of the evaluators: interface values. -/
namespace Go.Gv
open Go
theorem plainI_und {P : Program} {t : Ty} {T : TypeId} (hT : tym P t T = true) (h : plainI t = true) : ∃ U, P.underlying T = some U ∧ ∀ ms, U ≠ .interface ms := by
 cases t with
 | int k => exact ⟨_, und_int hT, fun _ e => by cases e⟩
 | bool => exact ⟨_, und_bool hT, fun _ e => by cases e⟩
 | str => exact ⟨_, und_str hT, fun _ e => by cases e⟩
 | sl t => obtain ⟨e, this, _⟩ := und_sl hT; exact ⟨_, this, fun _ e => by cases e⟩
 | nl => simp [tym] at hT
 | cs a b => simp [tym] at hT
 | st fs => obtain ⟨f, this, _⟩ := und_st hT; exact ⟨_, this, fun _ e => by cases e⟩
 | arr n t => obtain ⟨e, this, _⟩ := und_arr hT; exact ⟨_, this, fun _ e => by cases e⟩
 | mp k v => obtain ⟨a, b, this, _⟩ := und_mp hT; exact ⟨_, this, fun _ e => by cases e⟩
 | pt t =>
  simp only [tym, Bool.and_eq_true] at hT
  obtain ⟨_, h2⟩ := hT
  split at h2
  · rename_i e he; exact ⟨_, he, fun _ e => by cases e⟩
  · cases h2
 | ot k => cases h
 | fn =>
  simp only [tym, Bool.and_eq_true] at hT
  obtain ⟨_, h2⟩ := hT
  split at h2
  · rename_i e he; exact ⟨_, he, fun _ e => by cases e⟩
  · cases h2
 | ni => cases h
 | ifc u t r => cases h
theorem mkIA_run {P : Program} {E : Env} (hE : E.ok P = true) {hp : Nat → HObj} {T : TypeId} {X ap : AP} (h : mkIA E hp T X = some ap) {β : Asg} {G : GW} (H : HeapSat hp β G) {u : Value} (hu : sat X β G u) :
    ∃ r, (Instr.makeInterface T u).run P G.w = .ok r G.w ∧ sat ap β G r := by
 unfold mkIA at h
 split at h
 · rename_i t nb ht
   have hT := (Env.ty_ok hE ht).1
   split at h
   · rename_i z hpl hz
     simp only [Option.some.injEq] at h; subst h
     obtain ⟨U, hU, hn⟩ := plainI_und hT hpl
     have hr := toDat_rep H hz hu
     refine ⟨.iface T u, ?_, by unfold sat; exact .of_one rfl ⟨u, rfl, hr.1, hr.2⟩⟩
     cases U <;> first | exact absurd rfl (hn _) | simp [Instr.makeInterface, run_underlying hU]
   · cases h
 · cases h
theorem getI_nil {s : Ty} {n : Nat} : ∀ {t : Ty} {x : Dat t}, isI t = false → getI s n t x = none
 | .int _, _, _ => rfl
 | .bool, _, _ => rfl
 | .str, _, _ => rfl
 | .sl _, _, _ => rfl
 | .nl, _, _ => rfl
 | .cs _ _, _, _ => rfl
 | .st _, _, _ => rfl
 | .arr _ _, _, _ => rfl
 | .mp _ _, _, _ => rfl
 | .pt _, _, _ => rfl
 | .ot _, _, _ => rfl
 | .fn, _, _ => rfl
 | .ni, _, h => by cases h
 | .ifc _ _ _, _, h => by cases h
theorem getI_rep {s : Ty} {n : Nat} {G : GW} {v : Value} : ∀ (t : Ty) {x : Dat t}, isI t = true → okI s n t = true → Rep t x G [v] → (v = .nilIface ∧ getI s n t x = none) ∨ ∃ u w, v = .iface u w ∧ (u = n → ∃ z, getI s n t x = some z ∧ RepV s z G w) ∧ (u ≠ n → getI s n t x = none)
 | .ni, x, _, _, h => by
  unfold Rep at h
  simp only [List.cons.injEq, and_true] at h
  exact .inl ⟨h, rfl⟩
 | .ifc u t r, .inl z, _, ho, ⟨w, e, ha, hw⟩ => by
  simp only [List.cons.injEq, and_true] at e
  refine .inr ⟨u, w, e, fun hu => ?_, fun hu => ?_⟩
  · subst hu
    unfold okI at ho
    rw [Nat.beq_refl] at ho
    simp only [Bool.and_eq_true, decide_eq_true_eq] at ho
    obtain ⟨rfl, _⟩ := ho
    refine ⟨z, ?_, ha, hw⟩
    have hc : castDat t t z = some z := by unfold castDat; rw [dif_pos rfl]
    unfold getI
    rw [Nat.beq_refl]
    exact hc
  · unfold getI
    have : Nat.beq u n = false := by
     cases hb : Nat.beq u n with
     | false => rfl
     | true => exact absurd (Nat.eq_of_beq_eq_true hb) hu
    rw [this]
 | .ifc u t r, .inr y, _, ho, ⟨⟨_, _, _⟩, h1, h0⟩ => by
  have ho' : okI s n r = true := by
   unfold okI at ho
   split at ho
   · simp only [Bool.and_eq_true] at ho; exact ho.2
   · exact ho
  have hg : getI s n (.ifc u t r) (.inr y) = getI s n r y := by conv => lhs; unfold getI
  rw [hg]
  cases hi : isI r with
  | true => exact getI_rep r hi ho' (h1 hi)
  | false =>
   have := h0 hi
   simp only [List.cons.injEq, and_true] at this
   exact .inl ⟨this, getI_nil hi⟩
theorem asrtA_run {P : Program} {E : Env} (hE : E.ok P = true) {X ap : AP} {S T : TypeId} {ok : Bool} (h : asrtA E X T ok = some ap) {β : Asg} {G : GW} {u : Value} (hu : sat X β G u) :
    ∃ r, (Instr.typeAssert u S T ok).run P G.w = .ok r G.w ∧ sat ap β G r := by
 unfold asrtA at h
 split at h
 · rename_i s nb n t r x ht
   have hT := (Env.ty_ok hE ht).1
   split at h
   · rename_i hpl hok
     simp only [Option.some.injEq] at h; subst h
     obtain ⟨U, hU, hn⟩ := plainI_und hT hpl
     unfold sat at hu
     have hu := hu.to_one rfl
     obtain ⟨z, hz, hz2, hz3⟩ := tym_zero hT G.w
     have hzr : RepV s (dflt s) G z := ⟨hz3, by rw [hz2]; exact Rep.zero s G⟩
     have key : ∃ (v : Value) (o : Option (Dat s)), o = getI s T (.ifc n t r) x ∧ (Instr.typeAssert u S T true).run P G.w = .ok (.tuple #[v, .bool o.isSome]) G.w ∧ RepV s (o.getD (dflt s)) G v := by
      rcases getI_rep (.ifc n t r) rfl hok hu with ⟨rfl, hg⟩ | ⟨a, w, rfl, h1, h2⟩
      · refine ⟨z, none, hg.symm, ?_, hzr⟩
        cases U <;> first | exact absurd rfl (hn _) | simp [Instr.typeAssert, run_underlying hU, hz]
      · by_cases ha : a = T
        · obtain ⟨y, hy, hr⟩ := h1 ha
          refine ⟨w, some y, hy.symm, ?_, hr⟩
          cases U <;> first | exact absurd rfl (hn _) | simp [Instr.typeAssert, run_underlying hU, ha]
        · refine ⟨z, none, (h2 ha).symm, ?_, hzr⟩
          cases U <;> first | exact absurd rfl (hn _) | simp [Instr.typeAssert, run_underlying hU, ha, hz]
     obtain ⟨v, o, rfl, hrun, hrep⟩ := key
     refine ⟨_, hrun, ?_⟩
     unfold sat
     refine ⟨[v, .bool (getI s T (.ifc n t r) x).isSome], rfl, ?_⟩
     unfold satT
     refine ⟨_, _, rfl, by unfold sat; exact hrep, ?_⟩
     unfold satT
     exact ⟨_, _, rfl, sat_dec_of (by simp), by unfold satT; rfl⟩
   · cases h
 · cases h
end Go.Gv

/- Soundness of the evaluators, last part: one operation. -/
namespace Go.Gv
open Go
theorem OpRun.of_res {P : Program} {C : Ctx} {hp : Nat → HObj} {β : Asg} {a : Act} {G : GW} {o : Oper} {out : Out} {s : Sem Value} (hex : execOp a.eval o = (do Pure.pure (.value (← s)))) (h : Res P C hp β G s out) : OpRun P C hp β a G o out := by
 obtain ⟨v, β', G', h1, h2, h3, h4, h5⟩ := h
 exact ⟨.value v, v, β', G', by rw [hex]; simp [h1], .inl rfl, h2, h3, h4, h5⟩
theorem OpRun.of_pure {P : Program} {C : Ctx} {hp : Nat → HObj} {β : Asg} {a : Act} {G : GW} {o : Oper} {vc : List Prop} {ap : AP} {k : Nat} {s : Sem Value} (H : HInv C hp β G) (hex : execOp a.eval o = (do Pure.pure (.value (← s)))) (h : ∃ r, s.run P G.w = .ok r G.w ∧ sat ap β G r) :
    OpRun P C hp β a G o { vc := vc, ap := ap, hw := [], k := k } := by
 obtain ⟨r, h1, h2⟩ := h
 exact ⟨.value r, r, β, G, by rw [hex]; simp [h1], .inl rfl, H, Asg.le_refl β, G.le_refl, h2⟩
theorem OpRun.of_unit {P : Program} {C : Ctx} {hp : Nat → HObj} {β : Asg} {a : Act} {G : GW} {o : Oper} {vc : List Prop} {h : Nat} {ob : HObj} {s : Sem Unit} (hex : execOp a.eval o = (do s; Pure.pure .skip)) (hh : ∃ G', s.run P G.w = .ok () G'.w ∧ HInv C (hset hp [(h, ob)]) β G' ∧ G.le G') :
    OpRun P C hp β a G o { vc := vc, ap := .any, hw := [(h, ob)] } := by
 obtain ⟨G', h1, h2, h3⟩ := hh
 exact ⟨.skip, undef, β, G', by rw [hex]; simp [h1], .inr ⟨rfl, rfl⟩, h2, Asg.le_refl β, h3, by unfold sat; trivial⟩
theorem OpRun.of_pure2 {P : Program} {C : Ctx} {hp : Nat → HObj} {β : Asg} {a : Act} {G : GW} {o : Oper} {out : Out} {s : Sem Value} {r : Option (List Prop × AP)} (H : HInv C hp β G) (hex : execOp a.eval o = (do Pure.pure (.value (← s)))) (he : pure2 r = some out)
    (h : ∀ vc ap, r = some (vc, ap) → out.vc = vc → ∃ v, s.run P G.w = .ok v G.w ∧ sat ap β G v) : OpRun P C hp β a G o out := by
 unfold pure2 at he
 split at he
 · simp only [Option.some.injEq] at he; subst he
   exact .of_pure H hex (h _ _ rfl rfl)
 · cases he
theorem OpRun.of_pure1 {P : Program} {C : Ctx} {hp : Nat → HObj} {β : Asg} {a : Act} {G : GW} {o : Oper} {out : Out} {s : Sem Value} {r : Option AP} (H : HInv C hp β G) (hex : execOp a.eval o = (do Pure.pure (.value (← s)))) (he : pure1 r = some out)
    (h : ∀ ap, r = some ap → ∃ v, s.run P G.w = .ok v G.w ∧ sat ap β G v) : OpRun P C hp β a G o out := by
 unfold pure1 at he
 split at he
 · simp only [Option.some.injEq] at he; subst he
   exact .of_pure H hex (h _ rfl)
 · cases he
theorem satT_nth {β : Asg} {G : GW} : ∀ {i : Nat} {vs X : AP} {l : List Value}, nthA i vs = some X → satT vs β G l → ∃ v, l[i]? = some v ∧ sat X β G v
 | 0, .cons x _, X, l, h, hs => by
  simp only [nthA, Option.some.injEq] at h; subst h
  unfold satT at hs
  obtain ⟨v, l', rfl, h1, _⟩ := hs
  exact ⟨v, rfl, h1⟩
 | i + 1, .cons _ r, X, l, h, hs => by
  unfold satT at hs
  obtain ⟨v, l', rfl, _, h2⟩ := hs
  obtain ⟨u, h3, h4⟩ := satT_nth (i := i) (by simpa [nthA] using h) h2
  exact ⟨u, h3, h4⟩
theorem encode_ascii {n : Int} (h0 : 0 ≤ n) (h1 : n < 128) : Utf8.encode n = ⟨⟨[byteOf n]⟩⟩ := by
 have hval : Utf8.valid n = true := by simp [Utf8.valid]; omega
 have hlt : n.toNat < 128 := by omega
 simp only [Utf8.encode, hval, if_true, hlt]
 rfl
theorem convA_run {P : Program} {E : Env} (hE : E.ok P = true) {S D : TypeId} {X ap : AP} {vc : List Prop} (h : convA E S D X = some (vc, ap)) (hv : ∀ p ∈ vc, p) {β : Asg} {G : GW} {u : Value} (hu : sat X β G u) :
    ∃ r, (convert S D u).run P G.w = .ok r G.w ∧ sat ap β G r := by
 unfold convA at h
 split at h
 · rename_i k1 n1 k n2 k3 n hs hd
   simp only [Option.some.injEq, Prod.mk.injEq] at h; obtain ⟨rfl, rfl⟩ := h
   obtain ⟨rfl, _⟩ := int_sat hu
   have h1 : k.has n := has_iff.2 ⟨hv _ (by simp [vcRange]), hv _ (by simp [vcRange])⟩
   refine ⟨.int k n, ?_, sat_int h1⟩
   simp [convert, run_underlying (und_int (Env.ty_ok hE hs).1), run_underlying (und_int (Env.ty_ok hE hd).1), Conv.intToInt, wrap_of_has h1]
 · rename_i k1 n1 n2 k3 n hs hd
   simp only [Option.some.injEq, Prod.mk.injEq] at h; obtain ⟨rfl, rfl⟩ := h
   obtain ⟨rfl, _⟩ := int_sat hu
   have h0 : 0 ≤ n := hv _ (by simp [vcAscii])
   have h1 : n < 128 := hv _ (by simp [vcAscii])
   refine ⟨strV [byteOf n], ?_, ?_⟩
   · rw [run_convert_int_string _ _ _ _ _ (by rw [und_int (Env.ty_ok hE hs).1]; rfl) (und_str (Env.ty_ok hE hd).1)]
     rw [encode_ascii h0 h1]; rfl
   · unfold sat
     exact .of_one rfl ⟨rfl, by simp [maxLen]⟩
 · cases h
theorem convW_run {P : Program} {E : Env} (hE : E.ok P = true) {S D : TypeId} {X ap : AP} (h : convW E S D X = some ap) {β : Asg} {G : GW} {u : Value} (hu : sat X β G u) :
    ∃ r, (convert S D u).run P G.w = .ok r G.w ∧ sat ap β G r := by
 unfold convW at h
 split at h
 · rename_i k1 n1 k n2 k3 n hs hd
   split at h
   · rename_i m hm
     simp only [Option.some.injEq] at h; subst h
     obtain ⟨rfl, _⟩ := int_sat hu
     obtain ⟨h1, h2⟩ := modOf_wrap hm n
     refine ⟨.int k (n % m), ?_, sat_int h2⟩
     simp [convert, run_underlying (und_int (Env.ty_ok hE hs).1), run_underlying (und_int (Env.ty_ok hE hd).1), Conv.intToInt, h1]
   · cases h
 · cases h
theorem foldl_bytes : ∀ (ns : List Int) (b : ByteArray), (ns.foldl (fun r n => r.push (UInt8.ofNat n.toNat)) b) = ⟨⟨b.data.toList ++ ns.map byteOf⟩⟩
 | [], b => by simp
 | n :: ns, b => by
  simp only [List.foldl_cons, foldl_bytes ns, List.map_cons]
  congr 2
  simp [ByteArray.push, byteOf]
theorem bstrA_run {P : Program} {E : Env} (hE : E.ok P = true) {hp : Nat → HObj} {S D : TypeId} {X ap : AP} (h : bstrA E hp S D X = some ap) {β : Asg} {G : GW} (H : HeapSat hp β G) {u : Value} (hu : sat X β G u) :
    ∃ r, (convert S D u).run P G.w = .ok r G.w ∧ sat ap β G r := by
 unfold bstrA at h
 split at h
 · rename_i n1 n2 hs hd
   split at h
   · rename_i xs hxs
     simp only [Option.some.injEq] at h; subst h
     obtain ⟨own, hr⟩ := elemsA_reads H hxs hu
     obtain ⟨base, cap, rfl, h1, h2, h3, L, l1, _, l3, l4, _⟩ := readsAs_cells hr
     obtain ⟨e, hue, hte, _⟩ := und_sl (Env.ty_ok hE hs).1
     have hL : L = xs.map (Value.int .u8) := by
      have hlen : L.length = xs.length := by rw [l1]; exact Nat.mul_one _
      refine List.ext_getElem (by rw [hlen, List.length_map]) (fun i i1 i2 => ?_)
      have hi : i < xs.length := by omega
      have hr1 := l4 i _ (List.getElem?_eq_getElem hi)
      unfold Rep at hr1
      have h5 := hr1.1
      have h6 : (L.drop (i * (Ty.int IntKind.u8).size)).take (Ty.int IntKind.u8).size = [L[i]] := by
       show (L.drop (i * 1)).take 1 = [L[i]]
       rw [Nat.mul_one, List.drop_eq_getElem_cons i1, List.take_succ_cons, List.take_zero]
      rw [h6] at h5
      simp only [List.cons.injEq, and_true] at h5
      rw [h5, List.getElem_map]
     have hmx : List.length (xs.map byteOf) ≤ maxLen := by rw [List.length_map]; omega
     refine ⟨strV (xs.map byteOf), ?_, ?_⟩
     · rw [run_convert_bytes_string G.w S D e base xs.length cap hue (und_int hte) (und_str (Env.ty_ok hE hd).1)]
       cases base with
       | none =>
        have := h3 rfl
        have hx : xs = [] := List.eq_nil_of_length_eq_zero (by omega)
        subst hx
        rfl
       | some a =>
        obtain ⟨hsp, hc⟩ := l3 a rfl
        have hld := run_loadCells_list (P := P) G.w a L (fun j v hv => by
         have hn : 0 < L.length := by have := (List.getElem?_eq_some_iff.1 hv).1; omega
         rw [addr_add a (hsp (by have : L.length = xs.length := by rw [l1]; exact Nat.mul_one _
                                 omega))]; exact hc j v hv)
        have hlen : L.length = xs.length := by rw [l1]; exact Nat.mul_one _
        rw [hlen, hL] at hld
        rw [run_bytesToString G.w a xs.length cap xs hld, foldl_bytes]
        rfl
     · unfold sat
       exact .of_one rfl ⟨rfl, hmx⟩
   · cases h
 · cases h
theorem len_has {n : Nat} (h : n ≤ maxLen) : IntKind.i64.has (n : Int) := has_iff.2 (by simp only [maxLen] at h; simp only [lo, hi]; omega)
theorem lenOfA_run {P : Program} {E : Env} (hE : E.ok P = true) {hp : Nat → HObj} {T ty : TypeId} {ats : Array TypeId} (a0 : ats[0]? = some T) {X ap : AP} {vc : List Prop} (h : lenOfA E hp T X = some (vc, ap)) (hv : ∀ p ∈ vc, p) {β : Asg} {G : GW} (H : HeapSat hp β G) {u : Value} (hu : sat X β G u) :
    ∃ r, (Builtin.len_ ats ty #[u]).run P G.w = .ok r G.w ∧ sat ap β G r := by
 unfold lenOfA at h
 split at h
 · rename_i nb ht
   have hue := und_str (Env.ty_ok hE ht).1
   split at h
   · rename_i s
     simp only [Option.some.injEq, Prod.mk.injEq] at h; obtain ⟨rfl, rfl⟩ := h
     obtain ⟨rfl, hl⟩ := str_sat hu
     refine ⟨.int .i64 s.length, ?_, sat_int (len_has hl)⟩
     have hsz : (⟨⟨s⟩⟩ : ByteArray).size = s.length := rfl
     simp [Builtin.len_, a0, run_underlying hue, strV, goInt, hsz]
   · cases h
 · rename_i t nb ht
   obtain ⟨e, hue, _, _⟩ := und_sl (Env.ty_ok hE ht).1
   split at h
   · simp only [Option.some.injEq, Prod.mk.injEq] at h; obtain ⟨rfl, rfl⟩ := h
     unfold sat at hu; subst hu
     refine ⟨.int .i64 0, ?_, sat_int (len_has (n := 0) (Nat.zero_le _))⟩
     simp [Builtin.len_, a0, run_underlying hue, goInt]
   · have key : ∀ (t' : Ty) (xs : List (Dat t')) own, ReadsAs G t' xs u own → ∃ r, (Builtin.len_ ats ty #[u]).run P G.w = .ok r G.w ∧ sat (.dat (.int .i64) (xs.length : Int)) β G r := by
      intro t' xs own hr
      obtain ⟨base, cap, rfl, h1, h2, _⟩ := hr.ex
      refine ⟨.int .i64 xs.length, ?_, sat_int (len_has (Nat.le_trans h1 h2))⟩
      simp [Builtin.len_, a0, run_underlying hue, goInt]
     split at h
     · rename_i hX
       simp only [Option.some.injEq, Prod.mk.injEq] at h; obtain ⟨rfl, rfl⟩ := h
       exact key _ _ _ (readsAs_im (slV_im H hX hu))
     · rename_i hX
       simp only [Option.some.injEq, Prod.mk.injEq] at h; obtain ⟨rfl, rfl⟩ := h
       exact key _ _ _ (readsAs_own (slV_own H hX hu).2.2)
     · unfold vwLen at h
       split at h
       · rename_i hh kk sz _ _
         split at h
         · rename_i u' xs hrow
           simp only [Option.some.injEq, Prod.mk.injEq] at h; obtain ⟨rfl, rfl⟩ := h
           unfold sat at hu
           obtain ⟨a, len, cap, hb, hsp, hkl, rfl⟩ := hu
           obtain ⟨u2, hu2, hsat⟩ := H hh (by rw [hrow]; simp)
           rw [hb] at hu2; cases hu2
           rw [hrow] at hsat
           obtain ⟨base, cap', e, c1, c2, c3, c4⟩ := hsat
           simp only [Value.slice.injEq] at e
           obtain ⟨rfl, rfl, rfl⟩ := e
           refine ⟨.int .i64 ((xs.length - kk : Nat) : Int), ?_, sat_int (len_has (by omega))⟩
           simp [Builtin.len_, a0, run_underlying hue, goInt]
         · cases h
       · cases h
 · rename_i n t nb ht
   obtain ⟨e, hue, _, _⟩ := und_arr (Env.ty_ok hE ht).1
   split at h
   · rename_i hn
     have hn := Nat.le_of_ble_eq_true hn
     simp only [Option.some.injEq, Prod.mk.injEq] at h; obtain ⟨rfl, rfl⟩ := h
     refine ⟨.int .i64 n, ?_, sat_int (len_has (Nat.le_trans hn (by simp only [maxLen]; omega)))⟩
     simp [Builtin.len_, a0, run_underlying hue, goInt]
   · cases h
 · rename_i k v nb ht
   obtain ⟨a, b, hum, _, _⟩ := und_mp (Env.ty_ok hE ht).1
   split at h
   · rename_i m hm
     simp only [Option.some.injEq, Prod.mk.injEq] at h; obtain ⟨rfl, rfl⟩ := h
     have hlen : m.length ≤ maxLen := hv _ (by simp)
     refine ⟨.int .i64 m.length, ?_, sat_int (len_has hlen)⟩
     rcases mpV_sat H hm hu with ⟨rfl, rfl⟩ | ⟨bb, es, c, rfl, hb, hr⟩
     · simp [Builtin.len_, a0, run_underlying hum, goInt]
     · simp [Builtin.len_, a0, run_underlying hum, MapKept.run_getObj_map hb, goInt, hr.1, Result.andThen]
   · cases h
 · cases h
theorem newObj_run {P : Program} (w : World) (o : Obj) : (newObj o).run P w = .ok w.heap.size (w.alloc o) := rfl
theorem makeMap_run {P : Program} {C : Ctx} {hp : Nat → HObj} {β : Asg} {G : GW} (H : HInv C hp β G) {T : TypeId} {nx : Nat} (hn : hp nx = .none) (k v : Ty) {rs : Option Value} (hr : ∀ r, rs = some r → (∃ a b, P.underlying T = some (.map a b)) ∧ ∃ kk n, r = .int kk n) :
    Res P C hp β G (Instr.makeMap T rs) { vc := [], ap := .ref nx, hw := [(nx, .map k v [])], k := 1 } := by
 have hst := GW.alloc_step H.heap (.map #[] 0) (fun _ => False) False
 obtain ⟨h1, h2⟩ := H.alloc_own (.map #[] 0) (fun _ => False) False (fun h => h.elim) nx (.map k v []) (.map (some G.w.heap.size)) hn (by simp)
  ⟨G.w.heap.size, #[], 0, rfl, by show (G.w.heap.push _)[G.w.heap.size]? = _; simp, ⟨rfl, fun i e he => by simp at he⟩, ⟨fun e he => by simp at he, by simp⟩⟩
  (fun b i hf => by cases hf) (fun b hf => ⟨hf, fun h => h⟩)
 refine ⟨.map (some G.w.heap.size), _, _, ?_, h1, h2, hst.le, by unfold sat; exact ⟨by simp, rfl⟩⟩
 cases rs with
 | none => simp [Instr.makeMap, newObj_run, GW.alloc, -run_newObj]
 | some r =>
  obtain ⟨⟨x, y, hu⟩, kk, n, rfl⟩ := hr r rfl
  simp [Instr.makeMap, newObj_run, GW.alloc, run_underlying hu, asInt, asIntOf, -run_newObj]
theorem some_of_ite {α : Type} {c : Prop} [Decidable c] {x y : α} (h : (if c then some x else none) = some y) : c ∧ x = y := by
 split at h
 · exact ⟨by assumption, Option.some.inj h⟩
 · cases h
theorem satT_listA {β : Asg} {G : GW} : ∀ (args : List AP) (l : List Value), args.length = l.length → (∀ (i : Nat) (X : AP), args[i]? = some X → ∃ v, l[i]? = some v ∧ sat X β G v) → satT (listA args) β G l
 | [], l, hl, _ => by
  have : l = [] := List.eq_nil_of_length_eq_zero hl.symm
  subst this
  unfold listA satT; rfl
 | X :: args, [], hl, _ => by simp at hl
 | X :: args, v :: l, hl, h => by
  unfold listA satT
  obtain ⟨u, hu, hs⟩ := h 0 X rfl
  cases hu
  exact ⟨_, _, rfl, hs, satT_listA args l (by simpa using hl) (fun i Y hY => h (i + 1) Y hY)⟩
theorem func_caps (f : Fn) (caps : Array Operand) {a : Act} : Value.func f ((#[] : Array Operand).map a.eval) (caps.map a.eval) = .func f #[] (caps.toList.map a.eval).toArray := by
 have : caps.map a.eval = (caps.toList.map a.eval).toArray := by
  apply Array.ext'
  simp only [Array.toList_map]
 rw [this, Array.map_empty]
theorem bnd_none {β : Asg} {G : GW} : Bnd β G none none := ⟨fun _ h => (by cases h), fun _ => rfl⟩
theorem bnd_some {β : Asg} {G : GW} {X : AP} {v : Value} (h : sat X β G v) : Bnd β G (some X) (some v) := ⟨fun _ e => (by cases e; exact ⟨v, rfl, h⟩), fun e => (by cases e)⟩
theorem negW_run {P : Program} {X ap : AP} (h : negW X = some ap) {β : Asg} {G : GW} {u : Value} (hu : sat X β G u) : ∃ r, (Op.unary .neg u).run P G.w = .ok r G.w ∧ sat ap β G r := by
 unfold negW at h
 split at h
 · rename_i k n
   split at h
   · rename_i m hm
     simp only [Option.some.injEq] at h; subst h
     obtain ⟨rfl, _⟩ := int_sat hu
     obtain ⟨h1, h2⟩ := modOf_wrap hm (-n)
     exact ⟨_, by simp [Op.unary, Op.intArith, h1], sat_int h2⟩
   · cases h
 · cases h
theorem evalOp_sound {P : Program} {E : Env} (hE : E.ok P = true) {C : Ctx} {hp : Nat → HObj} {nx : Nat} {cond : Bool} {dst : Option Nat} {o : Oper} {args : List AP} {out : Out} {β : Asg} {a : Act} {G : GW} (H : HInv C hp β G) (hn : hp nx = .none)
    (he : evalOp E hp nx cond dst o.op args = some out) (hv : ∀ p ∈ out.vc, p) (hl : args.length = (opnds o.op).length) (ha : ∀ (i : Nat) (X : AP), args[i]? = some X → ∃ x, (opnds o.op)[i]? = some x ∧ sat X β G (a.eval x)) : OpRun P C hp β a G o out := by
 obtain ⟨dst', op, type, pos, after, guard⟩ := o
 dsimp only at he ha hl
 cases op
 case move x =>
  simp only [evalOp] at he
  split at he
  · simp only [Option.some.injEq] at he; subst he
    obtain ⟨_, e, hs⟩ := ha 0 _ rfl
    cases e
    exact .pure H rfl hs
  · cases he
 case assign x =>
  simp only [evalOp] at he
  split at he
  · simp only [Option.some.injEq] at he; subst he
    obtain ⟨_, e, hs⟩ := ha 0 _ rfl
    cases e
    exact .pure H rfl hs
  · cases he
 case alloc T =>
  simp only [evalOp] at he
  exact .of_res rfl (allocA_run hE he H hn)
 case box T x =>
  simp only [evalOp] at he
  split at he
  · obtain ⟨_, e, hs⟩ := ha 0 _ rfl
    cases e
    exact .of_res rfl (boxA_run he H hn hs)
  · cases he
 case build T ps =>
  simp only [evalOp] at he
  refine .of_pure1 H rfl he fun ap hap => ?_
  have := buildA_run (P := P) hE (G := G) (β := β) (ps := ps.toList.map fun p => (p.1, a.eval p.2)) (T := T) (Xs := args) (ap := ap) (by rw [List.map_map]; exact hap) (fun i X hX => by
   obtain ⟨x, hx, hs⟩ := ha i X hX
   refine ⟨_, ?_, hs⟩
   simp only [opnds] at hx
   rw [List.map_map]
   rw [List.getElem?_map, Option.map_eq_some_iff] at hx ⊢
   obtain ⟨p, hp1, rfl⟩ := hx
   exact ⟨p, hp1, rfl⟩)
  have e : (ps.toList.map fun p => (p.1, a.eval p.2)).toArray = ps.map fun p => (p.1, a.eval p.2) := by
   apply Array.ext'
   simp only [Array.toList_map]
  rw [e] at this
  exact this
 case buildSlice T n ps =>
  simp only [evalOp] at he
  have := buildSliceA_run (P := P) hE (C := C) (G := G) (β := β) (ps := ps.toList.map fun p => (p.1, a.eval p.2)) (T := T) (Xs := args) (n := n) (out := out) H hn (cond := cond) (by rw [List.map_map]; exact he) (fun i X hX => by
   obtain ⟨x, hx, hs⟩ := ha i X hX
   refine ⟨_, ?_, hs⟩
   simp only [opnds] at hx
   rw [List.map_map]
   rw [List.getElem?_map, Option.map_eq_some_iff] at hx ⊢
   obtain ⟨p, hp1, rfl⟩ := hx
   exact ⟨p, hp1, rfl⟩)
  have e : (ps.toList.map fun p => (p.1, a.eval p.2)).toArray = ps.map fun p => (p.1, a.eval p.2) := by
   apply Array.ext'
   simp only [Array.toList_map]
  rw [e] at this
  exact .of_res rfl this
 case load T x =>
  simp only [evalOp] at he
  split at he
  · obtain ⟨_, e, hs⟩ := ha 0 _ rfl
    cases e
    exact .of_pure2 H rfl he fun vc ap hr hvc => loadA_run hE hr (hvc ▸ hv) H.hs hs
  · cases he
 case store T x y =>
  simp only [evalOp] at he
  split at he
  · split at he
    · rename_i hr
      simp only [Option.some.injEq] at he; subst he
      obtain ⟨_, e, hs⟩ := ha 0 _ rfl
      cases e
      obtain ⟨_, e, hs1⟩ := ha 1 _ rfl
      cases e
      exact .of_unit rfl (storeA_run hE hr hv H hs hs1)
    · cases he
  · cases he
 case nilCheck x =>
  simp only [evalOp] at he
  split at he
  · split at he
    · rename_i hnil
      simp only [Option.some.injEq] at he; subst he
      obtain ⟨_, e, hs⟩ := ha 0 _ rfl
      cases e
      obtain ⟨ad, hx, had⟩ := nilOf_sat hnil hs
      cases ad with
      | none => simp at had
      | some ad => exact .pure H (by simp [execOp, hx]) (hx ▸ hs)
    · cases he
  · cases he
 case binOp b T x y r =>
  simp only [evalOp] at he
  split at he
  · obtain ⟨_, e, hs⟩ := ha 0 _ rfl
    cases e
    obtain ⟨_, e, hs1⟩ := ha 1 _ rfl
    cases e
    split at he
    · exact .of_pure1 H rfl he fun ap hr => wrapA_run hr hs hs1 x y G.w
    · exact .of_pure2 H rfl he fun vc ap hr hvc => binA_run hE hr (hvc ▸ hv) hs hs1 x y G.w
  · cases he
 case unOp u T x =>
  cases u
  case not =>
   simp only [evalOp] at he
   split at he
   · obtain ⟨_, e, hs⟩ := ha 0 _ rfl
     cases e
     split at he
     · rename_i bb
       simp only [Option.some.injEq] at he; subst he
       unfold sat at hs
       exact .of_pure H (s := Op.unary .not (a.eval x)) rfl ⟨.bool (!bb), by rw [hs]; simp [Op.unary], by unfold sat; rfl⟩
     · split at he
       · rename_i p hp'
         simp only [Option.some.injEq] at he; subst he
         obtain ⟨bb, hbb, hiff⟩ := prop_val (propOf_sat hp' hs)
         refine .of_pure H (s := Op.unary .not (a.eval x)) rfl ⟨.bool (!bb), by rw [hbb]; simp [Op.unary], ?_⟩
         unfold sat
         rw [← hiff]
         cases bb <;> simp
       · cases he
   · cases he
  case neg =>
   simp only [evalOp] at he
   split at he
   · split at he
     · obtain ⟨_, e, hs⟩ := ha 0 _ rfl
       cases e
       exact .of_pure1 (s := Op.unary .neg (a.eval x)) H rfl he fun ap hr => negW_run hr hs
     · cases he
   split at he
   · rename_i k n
     simp only [Option.some.injEq] at he; subst he
     obtain ⟨_, e, hs⟩ := ha 0 _ rfl
     cases e
     obtain ⟨hx, _⟩ := int_sat hs
     have h1 : k.has (negI n) := has_iff.2 ⟨hv _ (by simp [vcRange]), hv _ (by simp [vcRange])⟩
     refine .of_pure H (s := Op.unary .neg (a.eval x)) rfl ⟨.int k (negI n), ?_, sat_int h1⟩
     rw [hx]
     have h2 : k.wrap (-n) = negI n := wrap_of_has h1
     simp [Op.unary, Op.intArith, h2]
   · cases he
  all_goals simp [evalOp] at he
 case convert S D x =>
  simp only [evalOp] at he
  split at he
  · obtain ⟨_, e, hs⟩ := ha 0 _ rfl
    cases e
    split at he
    · exact .of_pure1 H rfl he fun ap hr => convW_run hE hr hs
    split at he
    · rename_i r hr0
      exact .of_pure2 H rfl he fun vc ap hr hvc => by
       cases hr
       exact convA_run hE hr0 (hvc ▸ hv) hs
    · exact .of_pure1 H rfl he fun ap hr => bstrA_run hE hr H.hs hs
  · cases he
 case makeFunc f first caps =>
  cases f <;> simp only [evalOp] at he <;> first | (cases he; done) | skip
  split at he
  · rename_i hf
    simp only [Option.some.injEq] at he; subst he
    have hf0 : first = #[] := Array.eq_empty_of_size_eq_zero hf
    subst hf0
    refine .pure H rfl ?_
    unfold sat
    refine ⟨caps.toList.map a.eval, func_caps _ _, satT_listA args _ (by simpa [opnds] using hl) fun i X hX => ?_⟩
    obtain ⟨x, hx, hs⟩ := ha i X hX
    exact ⟨_, by rw [List.getElem?_map]; simp only [opnds] at hx; rw [hx]; rfl, hs⟩
  · cases he
 case makeMap T r =>
  cases r with
  | none =>
   simp only [evalOp] at he
   split at he
   · simp only [Option.some.injEq] at he; subst he
     exact .of_res rfl (makeMap_run H hn _ _ (fun r h => by cases h))
   · cases he
  | some r =>
   simp only [evalOp] at he
   split at he
   · rename_i ht
     simp only [Option.some.injEq] at he; subst he
     obtain ⟨_, e, hs⟩ := ha 0 _ rfl
     cases e
     obtain ⟨x, y, hu, _, _⟩ := und_mp (Env.ty_ok hE ht).1
     exact .of_res rfl (makeMap_run H hn _ _ (fun r' h => by cases h; exact ⟨⟨x, y, hu⟩, _, _, (int_sat hs).1⟩))
   · cases he
 case makeSlice T l c =>
  simp only [evalOp] at he
  split at he
  · obtain ⟨_, e, hs⟩ := ha 0 _ rfl
    cases e
    obtain ⟨_, e, hs1⟩ := ha 1 _ rfl
    cases e
    exact .of_res rfl (makeSliceA_run hE H hn he hv hs hs1)
  · cases he
 case slice T x l h m =>
  simp only [evalOp] at he
  split at he
  · obtain ⟨_, e, hs⟩ := ha 0 _ rfl
    cases e
    exact .of_res rfl (partW_run hE H hn he hv hs bnd_none bnd_none bnd_none (fun h => (h rfl).elim))
  · obtain ⟨_, e, hs⟩ := ha 0 _ rfl
    cases e
    obtain ⟨_, e, hs1⟩ := ha 1 _ rfl
    cases e
    exact .of_res rfl (partW_run hE H hn he hv hs (bnd_some hs1) bnd_none bnd_none (fun h => (h rfl).elim))
  · obtain ⟨_, e, hs⟩ := ha 0 _ rfl
    cases e
    obtain ⟨_, e, hs1⟩ := ha 1 _ rfl
    cases e
    exact .of_res rfl (partW_run hE H hn he hv hs bnd_none (bnd_some hs1) bnd_none (fun h => (h rfl).elim))
  · obtain ⟨_, e, hs⟩ := ha 0 _ rfl
    cases e
    obtain ⟨_, e, hs1⟩ := ha 1 _ rfl
    cases e
    obtain ⟨_, e, hs2⟩ := ha 2 _ rfl
    cases e
    exact .of_res rfl (partW_run hE H hn he hv hs (bnd_some hs1) (bnd_some hs2) bnd_none (fun h => (h rfl).elim))
  · obtain ⟨_, e, hs⟩ := ha 0 _ rfl
    cases e
    obtain ⟨_, e, hs1⟩ := ha 1 _ rfl
    cases e
    obtain ⟨_, e, hs2⟩ := ha 2 _ rfl
    cases e
    obtain ⟨_, e, hs3⟩ := ha 3 _ rfl
    cases e
    exact .of_res rfl (partW_run hE H hn he hv hs (bnd_some hs1) (bnd_some hs2) (bnd_some hs3) (fun _ => by simp))
  · obtain ⟨_, e, hs⟩ := ha 0 _ rfl
    cases e
    obtain ⟨_, e, hs2⟩ := ha 1 _ rfl
    cases e
    obtain ⟨_, e, hs3⟩ := ha 2 _ rfl
    cases e
    exact .of_res rfl (partW_run hE H hn he hv hs bnd_none (bnd_some hs2) (bnd_some hs3) (fun _ => by simp))
  · cases he
 case fieldAddr T x f =>
  simp only [evalOp] at he
  split at he
  · obtain ⟨_, e, hs⟩ := ha 0 _ rfl
    cases e
    exact .of_pure1 H rfl he fun ap hr => fldAddrA_run hE hr hs
  · cases he
 case field T x f =>
  simp only [evalOp] at he
  split at he
  · obtain ⟨_, e, hs⟩ := ha 0 _ rfl
    cases e
    exact .of_pure1 H rfl he fun ap hr => fldA_run hE hr hs
  · cases he
 case indexAddr T x y =>
  simp only [evalOp] at he
  split at he
  · obtain ⟨_, e, hs⟩ := ha 0 _ rfl
    cases e
    obtain ⟨_, e, hs1⟩ := ha 1 _ rfl
    cases e
    exact .of_pure2 H rfl he fun vc ap hr hvc => idxAddrA_run hE hr (hvc ▸ hv) H.hs hs hs1
  · cases he
 case index T x y =>
  simp only [evalOp] at he
  split at he
  · obtain ⟨_, e, hs⟩ := ha 0 _ rfl
    cases e
    obtain ⟨_, e, hs1⟩ := ha 1 _ rfl
    cases e
    exact .of_pure2 H rfl he fun vc ap hr hvc => idxA_run hE hr (hvc ▸ hv) hs hs1
  · cases he
 case makeInterface T x =>
  simp only [evalOp] at he
  split at he
  · obtain ⟨_, e, hs⟩ := ha 0 _ rfl
    cases e
    exact .of_pure1 H rfl he fun ap hr => mkIA_run hE hr H.hs hs
  · cases he
 case typeAssert x S T ok =>
  simp only [evalOp] at he
  split at he
  · obtain ⟨_, e, hs⟩ := ha 0 _ rfl
    cases e
    exact .of_pure1 H rfl he fun ap hr => asrtA_run hE hr hs
  · cases he
 case lookup T x y ok =>
  simp only [evalOp] at he
  split at he
  · obtain ⟨_, e, hs⟩ := ha 0 _ rfl
    cases e
    obtain ⟨_, e, hs1⟩ := ha 1 _ rfl
    cases e
    exact .of_pure1 H rfl he fun ap hr => lookA_run hE hr H.hs hs hs1
  · cases he
 case mapUpdate T x y z =>
  simp only [evalOp] at he
  split at he
  · split at he
    · rename_i hr
      simp only [Option.some.injEq] at he; subst he
      obtain ⟨_, e, hs⟩ := ha 0 _ rfl
      cases e
      obtain ⟨_, e, hs1⟩ := ha 1 _ rfl
      cases e
      obtain ⟨_, e, hs2⟩ := ha 2 _ rfl
      cases e
      exact .of_unit rfl (mapUpdA_run hE hr H hs hs1 hs2)
    · cases he
  · cases he
 case insert T x y z =>
  simp only [evalOp] at he
  split at he
  · split at he
    · rename_i hr
      simp only [Option.some.injEq] at he; subst he
      obtain ⟨_, e, hs⟩ := ha 0 _ rfl
      cases e
      obtain ⟨_, e, hs1⟩ := ha 1 _ rfl
      cases e
      obtain ⟨_, e, hs2⟩ := ha 2 _ rfl
      cases e
      exact .of_unit rfl (mapUpdA_run hE hr H hs hs1 hs2)
    · cases he
  · cases he
 case extract x i =>
  simp only [evalOp] at he
  split at he
  · obtain ⟨_, e, hs⟩ := ha 0 _ rfl
    cases e
    refine .of_pure1 H rfl he fun ap hr => ?_
    unfold sat at hs
    obtain ⟨l, hx, hs⟩ := hs
    obtain ⟨v, h1, h2⟩ := satT_nth hr hs
    exact ⟨v, by rw [hx]; simp [Instr.extract, h1], h2⟩
  · split at he
    · simp only [Option.some.injEq] at he; subst he
      obtain ⟨_, e, hs⟩ := ha 0 _ rfl
      cases e
      rename_i p _
      refine .of_pure1 (r := some (.dec p)) H rfl rfl fun ap hr => ?_
      cases hr
      unfold sat at hs
      by_cases hp' : p
      · obtain ⟨x1, x2, hx⟩ := hs.1 hp'
        exact ⟨.bool true, by rw [hx]; simp [Instr.extract], by unfold sat; exact ⟨fun _ => rfl, fun hn => (hn hp').elim⟩⟩
      · have hx := hs.2 hp'
        exact ⟨.bool false, by rw [hx]; simp [Instr.extract], by unfold sat; exact ⟨fun h => (hp' h).elim, fun _ => rfl⟩⟩
    · cases he
  · cases he
 case range T x =>
  simp only [evalOp] at he
  split at he
  · obtain ⟨_, e, hs⟩ := ha 0 _ rfl
    cases e
    exact .of_res rfl (rangeA_run hE he H hn hs)
  · cases he
 case entry x =>
  simp only [evalOp] at he
  split at he
  · obtain ⟨_, e, hs⟩ := ha 0 _ rfl
    cases e
    exact .of_pure2 H rfl he fun vc ap hr hvv => entryA_run hr H hs (by rw [← hvv]; exact hv)
  · cases he
 case call c =>
  obtain ⟨callee, cargs, cats⟩ := c
  cases callee
  case builtin b =>
   have hargs1 : ∀ X, args = [X] → ∃ x, cargs = #[x] ∧ sat X β G (a.eval x) := by
    intro X e
    subst e
    obtain ⟨x, hx, hs⟩ := ha 0 _ rfl
    simp only [opnds] at hx hl
    match hc : cargs.toList, hl with
    | [y], _ =>
     rw [hc] at hx; cases hx
     exact ⟨x, by rw [← Array.toArray_toList (xs := cargs), hc], hs⟩
   have hargs2 : ∀ X Y, args = [X, Y] → ∃ x y, cargs = #[x, y] ∧ sat X β G (a.eval x) ∧ sat Y β G (a.eval y) := by
    intro X Y e
    subst e
    obtain ⟨x, hx, hs⟩ := ha 0 _ rfl
    obtain ⟨y, hy, hs1⟩ := ha 1 _ rfl
    simp only [opnds] at hx hy hl
    match hc : cargs.toList, hl with
    | [x', y'], _ =>
     rw [hc] at hx hy; cases hx; cases hy
     exact ⟨x, y, by rw [← Array.toArray_toList (xs := cargs), hc], hs, hs1⟩
   cases b <;> simp only [evalOp] at he <;> first | (cases he; done) | skip
   case append =>
    split at he
    · rename_i a0 a1
      obtain ⟨x, y, rfl, hs, hs1⟩ := hargs2 _ _ rfl
      exact .of_res (s := Builtin.append_ cats type #[a.eval x, a.eval y]) (by simp [execOp, resolve, invoke, builtin]) (appendW_run hE a0 a1 H hn he hv hs hs1)
    · cases he
   case delete =>
    split at he
    · rename_i a0
      obtain ⟨x, y, rfl, hs, hs1⟩ := hargs2 _ _ rfl
      split at he
      · rename_i h ob hr
        simp only [Option.some.injEq] at he; subst he
        obtain ⟨G', h1, h2, h3⟩ := mapDelA_run hE hr H hs hs1 cats a0 type
        exact .of_res (s := Builtin.delete_ cats type #[a.eval x, a.eval y]) (by simp [execOp, resolve, invoke, builtin]) ⟨_, β, G', h1, h2, Asg.le_refl β, h3, by unfold sat; trivial⟩
      · cases he
    · cases he
   case cap =>
    split at he
    · rename_i a0
      obtain ⟨x, rfl, hs⟩ := hargs1 _ rfl
      exact .of_pure1 (s := Builtin.cap_ cats type #[a.eval x]) H (by simp [execOp, resolve, invoke, builtin]) he fun ap hr => capA_run hE a0 hr hs
    · cases he
   case len =>
    split at he
    · rename_i a0
      obtain ⟨x, rfl, hs⟩ := hargs1 _ rfl
      exact .of_pure2 (s := Builtin.len_ cats type #[a.eval x]) H (by simp [execOp, resolve, invoke, builtin]) he fun vc ap hr hvc => lenOfA_run hE a0 hr (hvc ▸ hv) H.hs hs
    · cases he
   case max =>
    split at he
    · rename_i k n k' m
      split at he
      · rename_i hk
        have hk := of_decide_eq_true hk; subst hk
        simp only [Option.some.injEq] at he; subst he
        obtain ⟨x, y, rfl, hs, hs1⟩ := hargs2 _ _ rfl
        obtain ⟨h1, h2⟩ := int_sat hs
        obtain ⟨h3, h4⟩ := int_sat hs1
        refine .of_pure H (s := Builtin.max_ cats type #[a.eval x, a.eval y]) (by simp [execOp, resolve, invoke, builtin]) ⟨.int k (maxI n m), ?_, sat_int ?_⟩
        · rw [h1, h3]
          simp only [Builtin.max_, List.foldlM, Builtin.max2, maxI]
          by_cases hnm : @LT.lt Int _ n m
          · have : m > n := hnm
            have e : max n m = m := Int.max_eq_right (by omega)
            simp [this, e]
          · have : ¬ m > n := hnm
            have e : max n m = n := Int.max_eq_left (by omega)
            simp [this, e]
        · unfold maxI
          rcases Int.le_total n m with hnm | hnm
          · rw [Int.max_eq_right hnm]; exact h4
          · rw [Int.max_eq_left hnm]; exact h2
      · cases he
    · cases he
   case min =>
    split at he
    · rename_i k n k' m k'' q
      split at he
      · rename_i hk hk'
        have hk := of_decide_eq_true hk; subst hk
        have hk' := of_decide_eq_true hk'; subst hk'
        simp only [Option.some.injEq] at he; subst he
        obtain ⟨x, hx, hs⟩ := ha 0 _ rfl
        obtain ⟨y, hy, hs1⟩ := ha 1 _ rfl
        obtain ⟨z, hz, hs2⟩ := ha 2 _ rfl
        have hca : cargs = #[x, y, z] := by
         simp only [opnds] at hx hy hz hl
         match hc : cargs.toList, hl with
         | [x', y', z'], _ =>
          rw [hc] at hx hy hz; cases hx; cases hy; cases hz
          rw [← Array.toArray_toList (xs := cargs), hc]
        subst hca
        obtain ⟨h1, h2⟩ := int_sat hs
        obtain ⟨h3, h4⟩ := int_sat hs1
        obtain ⟨h5, h6⟩ := int_sat hs2
        have e2 : ∀ (a b : Int) (w : World), (Builtin.min2 (.int k a) (.int k b)).run P w = .ok (.int k (minI a b)) w := fun a b w => by
         simp only [Builtin.min2, minI]
         by_cases hnm : @LT.lt Int _ b a
         · have e : min a b = b := Int.min_eq_right (by omega)
           simp [hnm, e]
         · have e : min a b = a := Int.min_eq_left (by omega)
           simp [hnm, e]
        have hmin : ∀ a b : Int, k.has a → k.has b → k.has (minI a b) := fun a b ha hb => by
         unfold minI
         rcases Int.le_total a b with hnm | hnm
         · rw [Int.min_eq_left hnm]; exact ha
         · rw [Int.min_eq_right hnm]; exact hb
        refine .of_pure H (s := Builtin.min_ cats type #[a.eval x, a.eval y, a.eval z]) (by simp [execOp, resolve, invoke, builtin]) ⟨.int k (minI (minI n m) q), ?_, sat_int (hmin _ _ (hmin _ _ h2 h4) h6)⟩
        rw [h1, h3, h5]
        simp only [Builtin.min_, List.foldlM, Sem.run_bind, e2, Result.andThen_ok, Sem.run_pure]
      · cases he
    · rename_i k n k' m
      split at he
      · rename_i hk
        have hk := of_decide_eq_true hk; subst hk
        simp only [Option.some.injEq] at he; subst he
        obtain ⟨x, y, rfl, hs, hs1⟩ := hargs2 _ _ rfl
        obtain ⟨h1, h2⟩ := int_sat hs
        obtain ⟨h3, h4⟩ := int_sat hs1
        refine .of_pure H (s := Builtin.min_ cats type #[a.eval x, a.eval y]) (by simp [execOp, resolve, invoke, builtin]) ⟨.int k (minI n m), ?_, sat_int ?_⟩
        · rw [h1, h3]
          simp only [Builtin.min_, List.foldlM, Builtin.min2, minI]
          by_cases hnm : @LT.lt Int _ m n
          · have e : min n m = m := Int.min_eq_right (by omega)
            simp [hnm, e]
          · have e : min n m = n := Int.min_eq_left (by omega)
            simp [hnm, e]
        · unfold minI
          rcases Int.le_total n m with hnm | hnm
          · rw [Int.min_eq_left hnm]; exact h2
          · rw [Int.min_eq_right hnm]; exact h4
      · cases he
    · cases he
  all_goals simp [evalOp] at he
 all_goals simp [evalOp] at he
end Go.Gv

/- The frame rule of own memory: what happens on a part of the heap leaves the rest alone. -/
namespace Go.Gv
open Go
theorem memN_iff {l : List Nat} {n : Nat} : memN l n = true ↔ n ∈ l := by
 induction l with
 | nil => simp [memN]
 | cons a r ih =>
  simp only [memN]
  split
  · rename_i h; have := Nat.eq_of_beq_eq_true h; simp [this]
  · rename_i h
    have hne : ¬ n = a := fun e => by subst e; simp at h
    rw [ih]; simp [hne]
def keysH (hw : List (Nat × HObj)) : List Nat := hw.map (·.1)
theorem hset_not {hp : Nat → HObj} {hw : List (Nat × HObj)} {h : Nat} (hk : h ∉ keysH hw) : hset hp hw h = hp h := by
 induction hw with
 | nil => rfl
 | cons e r ih =>
  obtain ⟨k, o⟩ := e
  simp only [keysH, List.map_cons, List.mem_cons, not_or] at hk
  simp only [hset]
  rw [if_neg hk.1]
  exact ih hk.2
theorem hset_mem {hp hp' : Nat → HObj} {hw : List (Nat × HObj)} {h : Nat} (hk : h ∈ keysH hw) : hset hp hw h = hset hp' hw h := by
 induction hw with
 | nil => simp [keysH] at hk
 | cons e r ih =>
  obtain ⟨k, o⟩ := e
  simp only [keysH, List.map_cons, List.mem_cons] at hk
  simp only [hset]
  by_cases hh : h = k
  · rw [if_pos hh, if_pos hh]
  · rw [if_neg hh, if_neg hh]
    exact ih (hk.resolve_left hh)
def resH (hp : Nat → HObj) (ns : List Nat) : Nat → HObj := fun h => match memN ns h with
 | true => hp h
 | false => .none
def resB (β : Asg) (ns : List Nat) : Asg := fun h => match memN ns h with
 | true => β h
 | false => none
theorem resH_in {hp : Nat → HObj} {ns : List Nat} {h : Nat} (hh : h ∈ ns) : resH hp ns h = hp h := by
 unfold resH; rw [memN_iff.2 hh]
theorem resH_out {hp : Nat → HObj} {ns : List Nat} {h : Nat} (hh : h ∉ ns) : resH hp ns h = .none := by
 unfold resH
 split
 · rename_i e; exact (hh (memN_iff.1 e)).elim
 · rfl
theorem resB_in {β : Asg} {ns : List Nat} {h : Nat} (hh : h ∈ ns) : resB β ns h = β h := by
 unfold resB; rw [memN_iff.2 hh]
theorem resB_out {β : Asg} {ns : List Nat} {h : Nat} (hh : h ∉ ns) : resB β ns h = none := by
 unfold resB
 split
 · rename_i e; exact (hh (memN_iff.1 e)).elim
 · rfl
theorem resB_le (β : Asg) (ns : List Nat) : (resB β ns).le β := fun h v e => by
 by_cases hh : h ∈ ns
 · rwa [resB_in hh] at e
 · rw [resB_out hh] at e; cases e
theorem resH_congr {hp hp' : Nat → HObj} {ns : List Nat} (h : ∀ n ∈ ns, hp' n = hp n) : resH hp' ns = resH hp ns := by
 funext n
 by_cases hn : n ∈ ns
 · rw [resH_in hn, resH_in hn, h n hn]
 · rw [resH_out hn, resH_out hn]
def resC (C : Ctx) (hp : Nat → HObj) (β : Asg) (G : GW) (ns : List Nat) : Ctx :=
 { G0 := G, F0 := fun b o => ∃ h v, h ∈ ns ∧ β h = some v ∧ fpc (hp h) v b o, Fo0 := fun b => ∃ h v, h ∈ ns ∧ β h = some v ∧ fpo (hp h) v b, glob := C.glob, N := C.N }
theorem satH_le {o : HObj} {v : Value} {β β' : Asg} {G : GW} (h : satH o v β G) (hb : β.le β') : satH o v β' G := by
 cases o with
 | box cs => obtain ⟨b, l, e, h1, h2⟩ := h; exact ⟨b, l, e, satL.mono cs h1 hb G.le_refl, h2⟩
 | _ => exact h
theorem HInv.restrict {C : Ctx} {hp : Nat → HObj} {β : Asg} {G : GW} (H : HInv C hp β G) (ns : List Nat) (hcl : ∀ h ∈ ns, ∀ v, β h = some v → satH (hp h) v β G → satH (hp h) v (resB β ns) G) : HInv (resC C hp β G ns) (resH hp ns) (resB β ns) G := {
 heap := {
  no := fun h e => by
   by_cases hh : h ∈ ns
   · rw [resB_in hh]; rw [resH_in hh] at e; exact H.heap.no h e
   · exact resB_out hh
  sat := fun h e => by
   by_cases hh : h ∈ ns
   · rw [resH_in hh] at e ⊢
     rw [resB_in hh]
     obtain ⟨v, hv, hs⟩ := H.heap.sat h e
     exact ⟨v, hv, hcl h hh v hv hs⟩
   · exact (e (resH_out hh)).elim
  im := fun h v hv b o hf => by
   by_cases hh : h ∈ ns
   · rw [resB_in hh] at hv; rw [resH_in hh] at hf; exact H.heap.im h v hv b o hf
   · rw [resB_out hh] at hv; cases hv
  imo := fun h v hv b hf => by
   by_cases hh : h ∈ ns
   · rw [resB_in hh] at hv; rw [resH_in hh] at hf; exact H.heap.imo h v hv b hf
   · rw [resB_out hh] at hv; cases hv
  dis := fun h h' v v' hne hv hv' b o hf hf' => by
   by_cases hh : h ∈ ns
   · by_cases hh' : h' ∈ ns
     · rw [resB_in hh] at hv; rw [resH_in hh] at hf; rw [resB_in hh'] at hv'; rw [resH_in hh'] at hf'
       exact H.heap.dis h h' v v' hne hv hv' b o hf hf'
     · rw [resB_out hh'] at hv'; cases hv'
   · rw [resB_out hh] at hv; cases hv
  diso := fun h h' v v' hne hv hv' b hf hf' => by
   by_cases hh : h ∈ ns
   · by_cases hh' : h' ∈ ns
     · rw [resB_in hh] at hv; rw [resH_in hh] at hf; rw [resB_in hh'] at hv'; rw [resH_in hh'] at hf'
       exact H.heap.diso h h' v v' hne hv hv' b hf hf'
     · rw [resB_out hh'] at hv'; cases hv'
   · rw [resB_out hh] at hv; cases hv
  old := H.heap.old
  oldo := H.heap.oldo }
 step := Step.refl _ _ _
 own := fun h v hv b o hf => by
  by_cases hh : h ∈ ns
  · rw [resB_in hh] at hv; rw [resH_in hh] at hf; exact .inl ⟨h, v, hh, hv, hf⟩
  · rw [resB_out hh] at hv; cases hv
 owno := fun h v hv b hf => by
  by_cases hh : h ∈ ns
  · rw [resB_in hh] at hv; rw [resH_in hh] at hf; exact .inl ⟨h, v, hh, hv, hf⟩
  · rw [resB_out hh] at hv; cases hv
 glob := H.glob }
theorem HInv.frame {C : Ctx} {hp : Nat → HObj} {β : Asg} {G : GW} (H : HInv C hp β G) {ns : List Nat} {hp1 : Nat → HObj} {ks : List Nat} {β1 : Asg} {G1 : GW} (H1 : HInv (resC C hp β G ns) hp1 β1 G1) (hle : (resB β ns).le β1)
    (hp2 : Nat → HObj) (hk : ∀ h, h ∈ ns ∨ h ∈ ks → hp2 h = hp1 h) (hk2 : ∀ h, ¬ (h ∈ ns ∨ h ∈ ks) → hp2 h = hp h ∧ hp1 h = .none) (hfresh : ∀ h ∈ ks, h ∉ ns → hp h = .none) :
    ∃ β2, HInv C hp2 β2 G1 ∧ β.le β2 ∧ β1.le β2 := by
 let β2 : Asg := fun h => match β1 h with
  | some v => some v
  | none => β h
 have hb1 : β1.le β2 := fun h v e => by show (match β1 h with | some v => some v | none => β h) = _; rw [e]
 have hK : ∀ h, h ∈ ns ∨ h ∈ ks → β2 h = β1 h := fun h hh => by
  show (match β1 h with | some v => some v | none => β h) = _
  split
  · rename_i e; exact e.symm
  · rename_i e
    rw [e]
    by_cases hn : h ∈ ns
    · cases hb : β h with
      | none => rfl
      | some v => have := hle h v (by rw [resB_in hn]; exact hb); rw [e] at this; cases this
    · exact H.heap.no h (hfresh h (hh.resolve_left hn) hn)
 have hNK : ∀ h, ¬ (h ∈ ns ∨ h ∈ ks) → β2 h = β h := fun h hh => by
  show (match β1 h with | some v => some v | none => β h) = _
  rw [H1.heap.no h (hk2 h hh).2]
 have hb2 : β.le β2 := fun h v e => by
  by_cases hh : h ∈ ns ∨ h ∈ ks
  · rw [hK h hh]
    by_cases hn : h ∈ ns
    · exact hle h v (by rw [resB_in hn]; exact e)
    · rw [H.heap.no h (hfresh h (hh.resolve_left hn) hn)] at e; cases e
  · rw [hNK h hh]; exact e
 have hF0 : ∀ b o, (resC C hp β G ns).F0 b o → ∃ h v, (h ∈ ns ∨ h ∈ ks) ∧ β h = some v ∧ fpc (hp h) v b o := fun b o ⟨h, v, hn, hv, hf⟩ => ⟨h, v, .inl hn, hv, hf⟩
 have hFo0 : ∀ b, (resC C hp β G ns).Fo0 b → ∃ h v, (h ∈ ns ∨ h ∈ ks) ∧ β h = some v ∧ fpo (hp h) v b := fun b ⟨h, v, hn, hv, hf⟩ => ⟨h, v, .inl hn, hv, hf⟩
 refine ⟨β2, ⟨H.heap.gen (fun h => h ∈ ns ∨ h ∈ ks) H1.step hb2 (fun h hh => ⟨(hk2 h hh).1, hNK h hh⟩) hF0 hFo0 (fun h hh e => ?_) (fun h hh e => ?_) (fun h v hh hv b o hf => ?_) (fun h v hh hv b hf => ?_) (fun h h' v v' hh hh' hne hv hv' b o hf hf' => ?_) (fun h h' v v' hh hh' hne hv hv' b hf hf' => ?_) H1.heap.old H1.heap.oldo,
  H.step.trans H1.step (fun b o ⟨h, v, hn, hv, hf⟩ => H.own h v hv b o hf) (fun b ⟨h, v, hn, hv, hf⟩ => H.owno h v hv b hf), fun h v hv b o hf => ?_, fun h v hv b hf => ?_, fun g t x hx => ?_⟩, hb2, hb1⟩
 · rw [hK h hh]; rw [hk h hh] at e; exact H1.heap.no h e
 · rw [hK h hh]; rw [hk h hh] at e ⊢
   obtain ⟨v, hv, hs⟩ := H1.heap.sat h e
   exact ⟨v, hv, satH_le hs hb1⟩
 · rw [hK h hh] at hv; rw [hk h hh] at hf
   exact ⟨(H1.own h v hv b o hf).imp (hF0 b o) id, H1.heap.im h v hv b o hf⟩
 · rw [hK h hh] at hv; rw [hk h hh] at hf
   exact ⟨(H1.owno h v hv b hf).imp (hFo0 b) id, H1.heap.imo h v hv b hf⟩
 · rw [hK h hh] at hv; rw [hk h hh] at hf; rw [hK h' hh'] at hv'; rw [hk h' hh'] at hf'
   exact H1.heap.dis h h' v v' hne hv hv' b o hf hf'
 · rw [hK h hh] at hv; rw [hk h hh] at hf; rw [hK h' hh'] at hv'; rw [hk h' hh'] at hf'
   exact H1.heap.diso h h' v v' hne hv hv' b hf hf'
 · by_cases hh : h ∈ ns ∨ h ∈ ks
   · rw [hK h hh] at hv; rw [hk h hh] at hf
     rcases H1.own h v hv b o hf with ⟨h0, v0, _, hv0, hf0⟩ | hsz
     · exact H.own h0 v0 hv0 b o hf0
     · exact .inr (Nat.le_trans H.step.size hsz)
   · rw [hNK h hh] at hv; rw [(hk2 h hh).1] at hf
     exact H.own h v hv b o hf
 · by_cases hh : h ∈ ns ∨ h ∈ ks
   · rw [hK h hh] at hv; rw [hk h hh] at hf
     rcases H1.owno h v hv b hf with ⟨h0, v0, _, hv0, hf0⟩ | hsz
     · exact H.owno h0 v0 hv0 b hf0
     · exact .inr (Nat.le_trans H.step.size hsz)
   · rw [hNK h hh] at hv; rw [(hk2 h hh).1] at hf
     exact H.owno h v hv b hf
 · exact H1.glob g t x hx
end Go.Gv
