/- A verified generator of conditions over the code of the model. Part 3. -/
import Derived.Test.YtjlighbppoffhaaDoorGb
import Derived.MapKept
import Derived.Lib.AppendZerosOnto
import Derived.Laws.Runes
import Derived.Laws.BytesString
set_option linter.all false

/- Soundness of the evaluators, seventh part: maps, lengths, conversions, least and greatest, negation, extraction. -/
namespace Go.Gv
open Go
def keyVal : (t : Ty) → Dat t → Value
 | .int k, n => .int k n
 | .str, s => strV s
 | .bool, b => .bool b
 | _, _ => undef
theorem key_sat {t : Ty} (ht : keyTy t = true) {x : Dat t} {G : GW} {v : Value} (h : RepV t x G v) : v = keyVal t x := by
 cases t <;> first | (simp [keyTy] at ht; done) | skip
 · have := h.to_one rfl; unfold Rep at this; simpa [keyVal] using this.1
 · have := h.to_one rfl; unfold Rep at this; simpa [keyVal] using this
 · have := h.to_one rfl; unfold Rep at this; simpa [keyVal] using this.1
def keyDesc : Ty → TypeDesc
 | .int k => .int k
 | .str => .string
 | _ => .bool
theorem tym_key {P : Program} {t : Ty} {T : TypeId} (ht : keyTy t = true) (h : tym P t T = true) : P.underlying T = some (keyDesc t) := by
 cases t <;> first | (simp [keyTy] at ht; done) | skip
 · exact und_int h
 · exact und_bool h
 · exact und_str h
theorem sameNow_key {t : Ty} (ht : keyTy t = true) (x y : Dat t) : Instr.sameNow (keyDesc t) (keyVal t x) (keyVal t y) = some (decide (x = y)) := by
 cases t <;> first | (simp [keyTy] at ht; done) | skip
 · simp [keyDesc, keyVal, Instr.sameNow]
   by_cases h : x = y <;> simp [h]
 · simp [keyDesc, keyVal, Instr.sameNow]
   cases x <;> cases y <;> rfl
 · simp only [keyDesc, keyVal, Instr.sameNow, strV]
   by_cases h : x = y
   · simp only [h, decide_true]
     exact congrArg some ((MapKept.bytes_beq _ _).2 rfl)
   · have e : ((⟨⟨x⟩⟩ : ByteArray) == ⟨⟨y⟩⟩) = false := Bool.eq_false_iff.2 fun hb => h (by have := (MapKept.bytes_beq _ _).1 hb; simpa using this)
     simp only [e, h, decide_false]
theorem key_isKey {t : Ty} (ht : keyTy t = true) (x : Dat t) : MapKept.IsKey (keyDesc t) (keyVal t x) := by
 cases t <;> first | (simp [keyTy] at ht; done) | simp [keyDesc, keyVal, MapKept.IsKey, strV]
theorem checkKey_run {P : Program} {t : Ty} {T : TypeId} (ht : keyTy t = true) (h : tym P t T = true) (em : Bool) (x : Dat t) (w : World) : (Instr.checkKey em 10000 T (keyVal t x)).run P w = .ok () w :=
 MapKept.run_checkKey (tym_key ht h) (key_isKey ht x) em 9999
theorem findNow_spec {k v : Ty} (hk : keyTy k = true) (y : Dat k) (z : Dat v) {G : GW} : ∀ (es : List MapEntry) (m : List (Dat k × Dat v)) (i : Nat), es.length = m.length →
    (∀ (j : Nat) (e : MapEntry), es[j]? = some e → ∃ x, m[j]? = some x ∧ RepV k x.1 G e.key ∧ RepV v x.2 G e.val) →
    (mget m y = none ∧ Instr.findNow (keyDesc k) (keyVal k y) es i = some none ∧ mput m y z = m ++ [(y, z)]) ∨
    ∃ j e x, es[j]? = some e ∧ m[j]? = some x ∧ x.1 = y ∧ Instr.findNow (keyDesc k) (keyVal k y) es i = some (some (i + j, e.val)) ∧ mget m y = some x.2 ∧ mput m y z = m.set j (y, z)
 | [], m, i, hl, _ => by
  have : m = [] := List.eq_nil_of_length_eq_zero hl.symm
  subst this
  exact .inl ⟨rfl, rfl, rfl⟩
 | e :: es, [], i, hl, _ => by simp at hl
 | e :: es, (a, b) :: m, i, hl, h => by
  obtain ⟨x, hx, h1, h2⟩ := h 0 e rfl
  cases hx
  have hkey := key_sat hk h1
  have hsame := sameNow_key hk y a
  by_cases hay : a = y
  · subst hay
    refine .inr ⟨0, e, (a, b), rfl, rfl, rfl, ?_, by simp [mget], by simp [mput]⟩
    simp [Instr.findNow, hkey, hsame]
  · have hya : ¬ y = a := fun e => hay e.symm
    have ih := findNow_spec hk y z es m (i + 1) (by simpa using hl) (fun j e he => h (j + 1) e he)
    rcases ih with ⟨h3, h4, h5⟩ | ⟨j, e', x, h3, h4, h5, h6, h7, h8⟩
    · exact .inl ⟨by simp [mget, hay, h3], by simp [Instr.findNow, hkey, hsame, hya, h4], by simp [mput, hay, h5]⟩
    · refine .inr ⟨j + 1, e', x, h3, h4, h5, ?_, by simp [mget, hay, h7], by simp [mput, hay, h8]⟩
      simp [Instr.findNow, hkey, hsame, hya, h6]
      omega
theorem mapRep_of {k v : Ty} {m : List (Dat k × Dat v)} {G : GW} {es : Array MapEntry} (h1 : es.size = m.length)
    (h2 : ∀ (i : Nat) (e : MapEntry), es[i]? = some e → ∃ x : Dat k × Dat v, m[i]? = some x ∧ Rep k x.1 G e.key.cells.toList ∧ (k.agg = true ↔ ∃ c, e.key = .agg c) ∧ Rep v x.2 G e.val.cells.toList ∧ (v.agg = true ↔ ∃ c, e.val = .agg c)) : MapRep k v m G es :=
 ⟨h1, fun i e he => let ⟨x, hx, r1, a1, r2, a2⟩ := h2 i e he; ⟨x, hx, ⟨a1, r1⟩, ⟨a2, r2⟩⟩⟩
theorem mpV_sat {hp : Nat → HObj} {β : Asg} {G : GW} (H : HeapSat hp β G) {k v : Ty} {X : AP} {m : List (Dat k × Dat v)} {u : Value} (h : mpV hp k v X = some m) (hs : sat X β G u) :
    (u = .map none ∧ m = []) ∨ ∃ b es c, u = .map (some b) ∧ G.w.heap[b]? = some (.map es c) ∧ MapRep k v m G es := by
 unfold mpV at h
 split at h
 · simp only [Option.some.injEq] at h; subst h
   unfold sat at hs
   exact .inl ⟨hs, rfl⟩
 · unfold castDat at h
   split at h
   · rename_i e; cases e
     simp only [Option.some.injEq] at h; subst h
     unfold sat at hs
     have := hs.to_one rfl
     unfold Rep at this
     obtain ⟨r, e, h1, h2⟩ := this
     simp only [List.cons.injEq, and_true] at e; subst e
     cases r with
     | none => exact .inl ⟨rfl, h1 rfl⟩
     | some b =>
      obtain ⟨es, c, _, hb, hsz, hx⟩ := h2 b rfl
      exact .inr ⟨b, es, c, rfl, hb, mapRep_of hsz hx⟩
   · cases h
 · split at h
   · rename_i hh
     unfold castDat at h
     split at h
     · rename_i e; cases e
       simp only [Option.some.injEq] at h; subst h
       unfold sat at hs
       obtain ⟨u', hu', hsat⟩ := H _ (by rw [hh]; simp)
       rw [hs.1] at hu'; cases hu'
       rw [hh] at hsat
       obtain ⟨b, es, c, rfl, h1, h2, _⟩ := hsat
       exact .inr ⟨b, es, c, rfl, h1, h2⟩
     · cases h
   · rename_i hh
     unfold castDat at h
     split at h
     · rename_i e; cases e
       simp only [Option.some.injEq] at h; subst h
       unfold sat at hs
       obtain ⟨u', hu', hsat⟩ := H _ (by rw [hh]; simp)
       rw [hs.1] at hu'; cases hu'
       rw [hh] at hsat
       obtain ⟨b, es, c, rfl, _, h1, _, h2⟩ := hsat
       exact .inr ⟨b, es, c, rfl, h1, h2⟩
     · cases h
   · cases h
 · cases h
theorem lookA_run {P : Program} {E : Env} (hE : E.ok P = true) {hp : Nat → HObj} {T : TypeId} {X Y ap : AP} {ok : Bool} (h : lookA E hp T X Y ok = some ap) {β : Asg} {G : GW} (H : HeapSat hp β G) {u v : Value} (hu : sat X β G u) (hw : sat Y β G v) :
    ∃ r, (Instr.lookup T u v ok).run P G.w = .ok r G.w ∧ sat ap β G r := by
 unfold lookA at h
 split at h
 · rename_i k v' nb ht
   obtain ⟨a, b, hum, hka, hvb⟩ := und_mp (Env.ty_ok hE ht).1
   split at h
   · rename_i m y hk hm hy
     have hye := key_sat hk (toDat_rep H hy hw)
     subst hye
     obtain ⟨z, hz, hz2, hz3⟩ := tym_zero hvb G.w
     have hzr : RepV v' (dflt v') G z := ⟨hz3, by rw [hz2]; exact Rep.zero v' G⟩
     have key : ∃ (r : Value) (o : Option (Dat v')), o = mget m y ∧ (∀ ok, (Instr.lookup T u (keyVal k y) ok).run P G.w = .ok (if ok then .tuple #[r, .bool o.isSome] else r) G.w) ∧ RepV v' (o.getD (dflt v')) G r := by
      rcases mpV_sat H hm hu with ⟨rfl, rfl⟩ | ⟨bb, es, c, rfl, hb, hr⟩
      · exact ⟨z, none, rfl, fun ok => by cases ok <;> simp [Instr.lookup, run_underlying hum, checkKey_run hk hka, MapKept.run_findKey (tym_key hk hka) (l := []) (k := keyVal k y) (a := none) rfl, hz, Result.andThen], hzr⟩
      · rcases findNow_spec hk y (dflt v') es.toList m 0 (by simpa using hr.1) (fun j e he => hr.2 j e (by simpa using he)) with ⟨h3, h4, h5⟩ | ⟨j, e', x, h3, h4, h5, h6, h7, h8⟩
        · exact ⟨z, none, h3.symm, fun ok => by cases ok <;> simp [Instr.lookup, run_underlying hum, MapKept.run_getObj_map hb, checkKey_run hk hka, MapKept.run_findKey (tym_key hk hka) h4, hz, Result.andThen], hzr⟩
        · obtain ⟨x', hx', _, hval⟩ := hr.2 j e' (by simpa using h3)
          rw [h4] at hx'; cases hx'
          exact ⟨e'.val, some x.2, h7.symm, fun ok => by cases ok <;> simp [Instr.lookup, run_underlying hum, MapKept.run_getObj_map hb, checkKey_run hk hka, MapKept.run_findKey (tym_key hk hka) h6, Result.andThen], hval⟩
     obtain ⟨r, o, rfl, hrun, hrep⟩ := key
     split at h
     · simp only [Option.some.injEq] at h; subst h
       exact ⟨_, hrun _, by simp only [Bool.false_eq_true, if_false]; unfold sat; exact hrep⟩
     · simp only [Option.some.injEq] at h; subst h
       refine ⟨_, hrun _, ?_⟩
       simp only [if_true]
       unfold sat
       refine ⟨[r, .bool (mget m y).isSome], rfl, ?_⟩
       unfold satT
       refine ⟨_, _, rfl, by unfold sat; exact hrep, ?_⟩
       unfold satT
       exact ⟨_, _, rfl, sat_dec_of (by simp), by unfold satT; rfl⟩
   · cases h
 · cases h
theorem rep_modify {k v : Ty} {m : List (Dat k × Dat v)} {G : GW} {es : Array MapEntry} (hr : MapRep k v m G es) {j : Nat} {y : Dat k} {z : Dat v} {kv zv : Value} (hy : RepV k y G kv) (hz : RepV v z G zv) :
    MapRep k v (m.set j (y, z)) G (es.modify j fun e => { e with key := kv, val := zv }) := by
 refine ⟨by simp [hr.1], fun i e he => ?_⟩
 rw [Array.getElem?_modify] at he
 split at he
 · rename_i hij
   subst hij
   rw [Option.map_eq_some_iff] at he
   obtain ⟨e0, he0, rfl⟩ := he
   have hlt : j < m.length := by rw [← hr.1]; exact (Array.getElem?_eq_some_iff.1 he0).1
   exact ⟨(y, z), by rw [List.getElem?_set_self hlt], hy, hz⟩
 · rename_i hij
   obtain ⟨x, hx, h1, h2⟩ := hr.2 i e he
   exact ⟨x, by rw [List.getElem?_set_ne hij]; exact hx, h1, h2⟩
theorem rep_push {k v : Ty} {m : List (Dat k × Dat v)} {G : GW} {es : Array MapEntry} (hr : MapRep k v m G es) {y : Dat k} {z : Dat v} {kv zv : Value} (hy : RepV k y G kv) (hz : RepV v z G zv) (c : Nat) :
    MapRep k v (m ++ [(y, z)]) G (es.push { key := kv, val := zv, born := c }) := by
 refine ⟨by simp [hr.1], fun i e he => ?_⟩
 rw [Array.getElem?_push] at he
 split at he
 · rename_i hij
   cases he
   exact ⟨(y, z), by rw [hij, hr.1]; simp, hy, hz⟩
 · obtain ⟨x, hx, h1, h2⟩ := hr.2 i e he
   exact ⟨x, by rw [List.getElem?_append_left (List.getElem?_eq_some_iff.1 hx).1]; exact hx, h1, h2⟩
theorem Step.setMap {hp : Nat → HObj} {β : Asg} {G : GW} (H : HeapOK hp β G) {h : Nat} {k v : Ty} {m : List (Dat k × Dat v)} {b : Nat} {es : Array MapEntry} {c : Nat} (hh : hp h = .map k v m) (hb : β h = some (.map (some b))) (ho : G.w.heap[b]? = some (.map es c)) (es' : Array MapEntry) (c' : Nat) :
    Step (fpc (hp h) (.map (some b))) (fpo (hp h) (.map (some b))) G { G with w := { G.w with heap := G.w.heap.setIfInBounds b (.map es' c') } } := by
 have hin : fpo (hp h) (.map (some b)) b := by rw [hh]; rfl
 have hne : ∀ b', b' ≠ b → (G.w.heap.setIfInBounds b (.map es' c'))[b']? = G.w.heap[b']? := fun b' hne => (MapKept.heap_set ho).2 b' hne
 have hcell : ∀ b' o, ({ G.w with heap := G.w.heap.setIfInBounds b (.map es' c') } : World).cell? ⟨b', o, none⟩ = G.w.cell? ⟨b', o, none⟩ ∧ ({ G.w with heap := G.w.heap.setIfInBounds b (.map es' c') } : World).frozen? ⟨b', o, none⟩ = G.w.frozen? ⟨b', o, none⟩ := by
  intro b' o
  by_cases e : b' = b
  · subst e
    simp only [World.cell?, World.frozen?, (MapKept.heap_set (o' := Obj.map es' c') ho).1, ho]
    exact ⟨trivial, trivial⟩
  · simp only [World.cell?, World.frozen?, hne b' e]
    exact ⟨trivial, trivial⟩
 exact {
  os := rfl
  tape := rfl
  output := rfl
  size := by simp
  cell := fun b' o _ _ => hcell b' o
  blk := fun b' _ _ hno => hne b' (fun e => hno (by subst e; exact hin))
  obj := fun b' es0 c0 hno he => (hne b' (fun e => hno (by subst e; exact hin))).trans he
  le := ⟨fun b' o hi => ⟨hi, (hcell b' o).1⟩, fun b' hi => ⟨hi, hne b' (fun e => (H.imo h _ hb b hin).1 (by subst e; exact hi))⟩⟩
  new := fun _ _ hi => .inl hi
  newo := fun _ hi => .inl hi
  drawn := .inl (Nat.le_refl _)
  nz := rfl }
theorem Born.push {es : Array MapEntry} {c : Nat} (h : Born es c) (k v : Value) : Born (es.push { key := k, val := v, born := c }) (c + 1) := by
 refine ⟨fun e he => ?_, ?_⟩
 · rw [Array.toList_push, List.mem_append] at he
   rcases he with he | he
   · have := h.1 e he; omega
   · rw [List.mem_singleton] at he; subst he; show c < c + 1; omega
 · rw [Array.toList_push, List.map_append, List.nodup_append]
   refine ⟨h.2, by simp, fun a ha b hb e => ?_⟩
   obtain ⟨x, hx, rfl⟩ := List.mem_map.1 ha
   have := h.1 x hx
   simp only [List.map_cons, List.map_nil, List.mem_singleton] at hb
   omega
theorem Born.modify {es : Array MapEntry} {c : Nat} (h : Born es c) (j : Nat) (f : MapEntry → MapEntry) (hf : ∀ e, (f e).born = e.born) : Born (es.modify j f) c := by
 have hm : (es.modify j f).toList.map (·.born) = es.toList.map (·.born) := by
  apply List.ext_getElem?
  intro i
  rw [List.getElem?_map, List.getElem?_map, Array.getElem?_toList, Array.getElem?_toList, Array.getElem?_modify]
  split
  · cases es[i]? <;> simp [hf]
  · rfl
 refine ⟨fun e he => ?_, by rw [hm]; exact h.2⟩
 have : e.born ∈ (es.modify j f).toList.map (·.born) := List.mem_map.2 ⟨e, he, rfl⟩
 rw [hm] at this
 obtain ⟨x, hx, e'⟩ := List.mem_map.1 this
 have := h.1 x hx
 omega
theorem mapUpdA_run {P : Program} {E : Env} (hE : E.ok P = true) {C : Ctx} {hp : Nat → HObj} {T : TypeId} {X Y Z : AP} {h : Nat} {ob : HObj} (he : mapUpdA E hp T X Y Z = some (h, ob)) {β : Asg} {G : GW} (H : HInv C hp β G) {u v z : Value} (hu : sat X β G u) (hv : sat Y β G v) (hz : sat Z β G z) :
    ∃ G', (Instr.mapUpdate T u v z).run P G.w = .ok () G'.w ∧ HInv C (hset hp [(h, ob)]) β G' ∧ G.le G' := by
 unfold mapUpdA at he
 split at he
 · rename_i k v' nb ht
   obtain ⟨a, b, hum, hka, hvb⟩ := und_mp (Env.ty_ok hE ht).1
   split at he
   · rename_i hn hk
     split at he
     · rename_i k0 v0 m hh
       split at he
       · rename_i m' y zz hm hy hzz
         simp only [Option.some.injEq, Prod.mk.injEq] at he; obtain ⟨rfl, rfl⟩ := he
         unfold castDat at hm
         split at hm
         · rename_i e; cases e
           simp only [Option.some.injEq] at hm; subst hm
           have hyr := toDat_rep H.hs hy hv
           have hzr := toDat_rep H.hs hzz hz
           have hye := key_sat hk hyr
           subst hye
           unfold sat at hu
           obtain ⟨u', hu', hsat⟩ := H.heap.sat hn (by rw [hh]; simp)
           rw [hu.1] at hu'; cases hu'
           rw [hh] at hsat
           obtain ⟨bb, es, c, rfl, ho, hr, hbn⟩ := hsat
           have fin : ∀ (es' : Array MapEntry) (c' : Nat), MapRep k v' (mput m y zz) G es' → Born es' c' → (Instr.mapUpdate T (.map (some bb)) (keyVal k y) z).run P G.w = .ok () { G.w with heap := G.w.heap.setIfInBounds bb (.map es' c') } →
               ∃ G', (Instr.mapUpdate T (.map (some bb)) (keyVal k y) z).run P G.w = .ok () G'.w ∧ HInv C (hset hp [(hn, .map k v' (mput m y zz))]) β G' ∧ G.le G' := fun es' c' hr' hbn' hrun => by
            have hst := Step.setMap H.heap hh hu.1 ho es' c'
            refine ⟨{ G with w := { G.w with heap := G.w.heap.setIfInBounds bb (.map es' c') } }, hrun, H.write hn _ _ hu.1 (by simp) rfl rfl hst ⟨bb, es', c', rfl, (MapKept.heap_set ho).1, hr'.mono hst.le, hbn'⟩ (fun _ _ hf => by cases hf) (fun b hf => by rw [hh]; exact hf), hst.le⟩
           rcases findNow_spec hk y zz es.toList m 0 (by simpa using hr.1) (fun j e he => hr.2 j e (by simpa using he)) with ⟨h3, h4, h5⟩ | ⟨j, e', x, h3, h4, h5, h6, h7, h8⟩
           · refine fin (es.push { key := keyVal k y, val := z, born := c }) (c + 1) (by rw [h5]; exact rep_push hr hyr hzr c) (hbn.push _ _) ?_
             simp [Instr.mapUpdate, run_underlying hum, MapKept.run_getObj_map ho, checkKey_run hk hka, MapKept.run_findKey (tym_key hk hka) h4, MapKept.run_setObj_map _ ho, Result.andThen]
           · refine fin (es.modify j fun e => { e with key := keyVal k y, val := z }) c (by rw [h8]; exact rep_modify hr hyr hzr) (hbn.modify j _ (fun _ => rfl)) ?_
             obtain ⟨x', hx', hkk, _⟩ := hr.2 j e' (by simpa using h3)
             rw [h4] at hx'; cases hx'
             have hek : e'.key = keyVal k y := by rw [key_sat hk hkk, h5]
             have h3' : es[j]? = some e' := by simpa using h3
             rw [Nat.zero_add] at h6
             simp [Instr.mapUpdate, run_underlying hum, MapKept.run_getObj_map ho, checkKey_run hk hka, MapKept.run_findKey (tym_key hk hka) h6, h3', hek, MapKept.run_keyThatStays (key_isKey hk y), MapKept.run_setObj_map _ ho, Result.andThen]
         · cases hm
       · cases he
     · cases he
   · cases he
 · cases he
theorem findNow_del {k v : Ty} (hk : keyTy k = true) (y : Dat k) {G : GW} : ∀ (es : List MapEntry) (m : List (Dat k × Dat v)) (i : Nat), es.length = m.length →
    (∀ (j : Nat) (e : MapEntry), es[j]? = some e → ∃ x, m[j]? = some x ∧ RepV k x.1 G e.key ∧ RepV v x.2 G e.val) →
    (Instr.findNow (keyDesc k) (keyVal k y) es i = some none ∧ mdel m y = m) ∨
    ∃ j e, es[j]? = some e ∧ Instr.findNow (keyDesc k) (keyVal k y) es i = some (some (i + j, e.val)) ∧ mdel m y = m.eraseIdx j
 | [], m, i, hl, _ => by
  have : m = [] := List.eq_nil_of_length_eq_zero hl.symm
  subst this
  exact .inl ⟨rfl, rfl⟩
 | e :: es, [], i, hl, _ => by simp at hl
 | e :: es, (a, b) :: m, i, hl, h => by
  obtain ⟨x, hx, h1, h2⟩ := h 0 e rfl
  cases hx
  have hkey := key_sat hk h1
  have hsame := sameNow_key hk y a
  by_cases hay : a = y
  · subst hay
    refine .inr ⟨0, e, rfl, ?_, by simp [mdel]⟩
    simp [Instr.findNow, hkey, hsame]
  · have hya : ¬ y = a := fun e => hay e.symm
    have ih := findNow_del hk y es m (i + 1) (by simpa using hl) (fun j e he => h (j + 1) e he)
    rcases ih with ⟨h4, h5⟩ | ⟨j, e', h3, h6, h8⟩
    · exact .inl ⟨by simp [Instr.findNow, hkey, hsame, hya, h4], by simp [mdel, hay, h5]⟩
    · refine .inr ⟨j + 1, e', h3, ?_, by simp [mdel, hay, h8]⟩
      simp [Instr.findNow, hkey, hsame, hya, h6]
      omega
theorem rep_del {k v : Ty} {m : List (Dat k × Dat v)} {G : GW} {es : Array MapEntry} (hr : MapRep k v m G es) (j : Nat) : MapRep k v (m.eraseIdx j) G (es.eraseIdxIfInBounds j) := by
 have hl : ∀ i, (es.eraseIdxIfInBounds j)[i]? = es[if i < j then i else i + 1]? := fun i => by
  unfold Array.eraseIdxIfInBounds
  split
  · rename_i hj
    rw [Array.getElem?_eraseIdx]
    split <;> rfl
  · rename_i hj
    split
    · rfl
    · rename_i hij
      rw [Array.getElem?_eq_none (by omega), Array.getElem?_eq_none (by omega)]
 refine ⟨?_, fun i e he => ?_⟩
 · rw [List.length_eraseIdx, Array.eraseIdxIfInBounds]
   have := hr.1
   split
   · rw [Array.size_eraseIdx, if_pos (by omega)]; omega
   · rw [if_neg (by omega)]; omega
 · rw [hl] at he
   obtain ⟨x, hx, h1, h2⟩ := hr.2 _ e he
   refine ⟨x, ?_, h1, h2⟩
   rw [List.getElem?_eraseIdx]
   split at hx <;> rename_i hij
   · rw [if_pos hij]; exact hx
   · rw [if_neg hij]; exact hx
theorem Born.erase {es : Array MapEntry} {c : Nat} (h : Born es c) (j : Nat) : Born (es.eraseIdxIfInBounds j) c := by
 unfold Array.eraseIdxIfInBounds
 split
 · rename_i hj
   have hs : (es.eraseIdx j hj).toList = es.toList.eraseIdx j := by simp
   refine ⟨fun e he => h.1 e ?_, ?_⟩
   · rw [hs] at he; exact List.mem_of_mem_eraseIdx he
   · rw [hs]
     exact h.2.sublist ((List.eraseIdx_sublist _ _).map _)
 · exact h
theorem mapDelA_run {P : Program} {E : Env} (hE : E.ok P = true) {C : Ctx} {hp : Nat → HObj} {T : TypeId} {X Y : AP} {h : Nat} {ob : HObj} (he : mapDelA E hp T X Y = some (h, ob)) {β : Asg} {G : GW} (H : HInv C hp β G) {u v : Value} (hu : sat X β G u) (hv : sat Y β G v) (cats : Array TypeId) (hT : cats[0]? = some T) (ty : TypeId) :
    ∃ G', (Builtin.delete_ cats ty #[u, v]).run P G.w = .ok (.tuple #[]) G'.w ∧ HInv C (hset hp [(h, ob)]) β G' ∧ G.le G' := by
 unfold mapDelA at he
 split at he
 · rename_i k v' nb ht
   obtain ⟨a, b, hum, hka, hvb⟩ := und_mp (Env.ty_ok hE ht).1
   split at he
   · rename_i hn hk
     split at he
     · rename_i k0 v0 m hh
       split at he
       · rename_i m' y hm hy
         simp only [Option.some.injEq, Prod.mk.injEq] at he; obtain ⟨rfl, rfl⟩ := he
         unfold castDat at hm
         split at hm
         · rename_i e; cases e
           simp only [Option.some.injEq] at hm; subst hm
           have hyr := toDat_rep H.hs hy hv
           have hye := key_sat hk hyr
           subst hye
           unfold sat at hu
           obtain ⟨u', hu', hsat⟩ := H.heap.sat hn (by rw [hh]; simp)
           rw [hu.1] at hu'; cases hu'
           rw [hh] at hsat
           obtain ⟨bb, es, c, rfl, ho, hr, hbn⟩ := hsat
           have fin : ∀ (es' : Array MapEntry), MapRep k v' (mdel m y) G es' → Born es' c → (Builtin.delete_ cats ty #[.map (some bb), keyVal k y]).run P G.w = .ok (.tuple #[]) { G.w with heap := G.w.heap.setIfInBounds bb (.map es' c) } →
               ∃ G', (Builtin.delete_ cats ty #[.map (some bb), keyVal k y]).run P G.w = .ok (.tuple #[]) G'.w ∧ HInv C (hset hp [(hn, .map k v' (mdel m y))]) β G' ∧ G.le G' := fun es' hr' hbn' hrun => by
            have hst := Step.setMap H.heap hh hu.1 ho es' c
            refine ⟨{ G with w := { G.w with heap := G.w.heap.setIfInBounds bb (.map es' c) } }, hrun, H.write hn _ _ hu.1 (by simp) rfl rfl hst ⟨bb, es', c, rfl, (MapKept.heap_set ho).1, hr'.mono hst.le, hbn'⟩ (fun _ _ hf => by cases hf) (fun b hf => by rw [hh]; exact hf), hst.le⟩
           rcases findNow_del hk y es.toList m 0 (by simpa using hr.1) (fun j e he => hr.2 j e (by simpa using he)) with ⟨h4, h5⟩ | ⟨j, e', h3, h6, h8⟩
           · refine fin es (by rw [h5]; exact hr) hbn ?_
             simp [Builtin.delete_, hT, run_underlying hum, MapKept.run_getObj_map ho, checkKey_run hk hka, MapKept.run_findKey (tym_key hk hka) h4, MapKept.run_setObj_map _ ho, Result.andThen]
           · refine fin (es.eraseIdxIfInBounds j) (by rw [h8]; exact rep_del hr j) (hbn.erase j) ?_
             rw [Nat.zero_add] at h6
             simp [Builtin.delete_, hT, run_underlying hum, MapKept.run_getObj_map ho, checkKey_run hk hka, MapKept.run_findKey (tym_key hk hka) h6, MapKept.run_setObj_map _ ho, Result.andThen]
         · cases hm
       · cases he
     · cases he
   · cases he
 · cases he
theorem HInv.freezeMap {C : Ctx} {hp : Nat → HObj} {β : Asg} {G : GW} (H : HInv C hp β G) {h : Nat} {k w : Ty} {m : List (Dat k × Dat w)} (hh : hp h = .map k w m) :
    ∃ G', G'.w = G.w ∧ G.le G' ∧ HInv C (hset hp [(h, .ob (.fm k w) m)]) β G' := by
 obtain ⟨v, hv, hs⟩ := H.heap.sat h (by rw [hh]; simp)
 let G' : GW := { w := G.w, im := G.im, imo := fun b => G.imo b ∨ fpo (hp h) v b, nz := G.nz }
 have hle : G.le G' := ⟨fun b i hi => ⟨hi, rfl⟩, fun b hi => ⟨.inl hi, rfl⟩⟩
 have hst : Step (fpc (hp h) v) (fpo (hp h) v) G G' := ⟨rfl, rfl, rfl, Nat.le_refl _, fun _ _ _ _ => ⟨rfl, rfl⟩, fun _ _ _ _ => rfl, fun _ _ _ _ h => h, hle, fun b i hi => .inl hi, fun b hi => hi.elim .inl (fun h => .inr (.inl h)), .inl (Nat.le_refl _), rfl⟩
 rw [hh] at hs
 obtain ⟨bb, es, c, rfl, h1, h2, h3⟩ := hs
 have hfo : ∀ b, fpo (hp h) (.map (some bb)) b ↔ b = bb := fun b => by rw [hh]; exact Iff.rfl
 have holdo : ∀ b, G'.imo b → ∃ o, G'.w.heap[b]? = some o ∧ ImObj o := fun b hi => hi.elim (H.heap.oldo b) (fun hf => by
  rw [hfo] at hf; subst hf; exact ⟨_, h1, .inl ⟨es, c, rfl⟩⟩)
 refine ⟨G', rfl, hle, ⟨H.heap.gen (fun n => n = h) hst (Asg.le_refl β) (fun n hne => ⟨by simp [hset, hne], rfl⟩) (fun b i hf => ⟨h, _, rfl, hv, hf⟩) (fun b hf => ⟨h, _, rfl, hv, hf⟩)
  (fun n e hno => by subst e; simp [hset] at hno) (fun n e _ => ?_) (fun n u e hu b i hf => by subst e; simp [hset, fpc, obF] at hf) (fun n u e hu b hf => by subst e; simp [hset, fpo, obFo] at hf)
  (fun n n' _ _ e e' hne => (hne (e.trans e'.symm)).elim) (fun n n' _ _ e e' hne => (hne (e.trans e'.symm)).elim) (fun b o hi => H.heap.old b o hi) holdo, ?_, ?_, ?_, ?_⟩⟩
 · subst e
   refine ⟨_, hv, ?_⟩
   simp only [hset, if_true]
   exact ⟨bb, es, c, rfl, .inr ((hfo bb).2 rfl), h1, h3, h2.mono hle⟩
 · exact H.step.trans hst (fun b o hf => H.own h _ hv b o hf) (fun b hf => H.owno h _ hv b hf)
 · intro n u hu b i hf
   by_cases e : n = h
   · subst e; simp [hset, fpc, obF] at hf
   · simp [hset, e] at hf; exact H.own n u hu b i hf
 · intro n u hu b hf
   by_cases e : n = h
   · subst e; simp [hset, fpo, obFo] at hf
   · simp [hset, e] at hf; exact H.owno n u hu b hf
 · exact fun g t x hx => (H.glob g t x hx).mono hle
theorem range_im {P : Program} {C : Ctx} {hp : Nat → HObj} {β : Asg} {G : GW} (H : HInv C hp β G) {T a b : TypeId} (hum : P.underlying T = some (.map a b)) {k v : Ty} {m : List (Dat k × Dat v)} {bb : Nat} {es : Array MapEntry} {c : Nat} (hi : G.imo bb) (ho : G.w.heap[bb]? = some (.map es c)) (hbn : Born es c) (hr : MapRep k v m G es) {nx : Nat} (hn : hp nx = .none) (d : Dat k × Dat v) :
    ∃ u β' G', (Instr.range T (.map (some bb))).run P G.w = .ok u G'.w ∧ HInv C (hset hp [(nx, .ob (.mit k v) (m, d, False))]) β' G' ∧ β.le β' ∧ G.le G' ∧ β' nx = some u ∧ u.oneCell' = true := by
 have hst := GW.alloc_step H.heap (.mapIter (some bb) c #[] c) (fun _ => False) False
 have hlt : bb < G.w.heap.size := (Array.getElem?_eq_some_iff.1 ho).1
 obtain ⟨h1, h2⟩ := H.alloc_own (.mapIter (some bb) c #[] c) (fun _ => False) False (fun h => h.elim) nx (.ob (.mit k v) (m, d, False)) (.pointer (some ⟨G.w.heap.size, 0, none⟩)) hn (by simp)
  ⟨G.w.heap.size, rfl, .inr ⟨bb, es, c, #[], by show (G.w.heap.push _)[G.w.heap.size]? = _; simp, .inl hi, (heap_alloc_lt _ _ _ hlt).trans ho, hbn, by
   have : es.filter (fun e => !(#[] : Array Nat).contains e.born) = es := Array.filter_eq_self.2 (fun _ _ => by simp)
   rw [this]; exact hr.mono hst.le, fun h => h.elim⟩⟩
  (fun b i hf => ⟨hf, fun h => h⟩) (fun b hf => ⟨hf, fun h => h⟩)
 refine ⟨.pointer (some ⟨G.w.heap.size, 0, none⟩), _, _, ?_, h1, h2, hst.le, by simp, rfl⟩
 simp [Instr.range, run_underlying hum, MapKept.run_getObj_map ho, GW.alloc, run_newObj]
theorem rangeA_run {P : Program} {E : Env} (hE : E.ok P = true) {C : Ctx} {hp : Nat → HObj} {nx : Nat} {T : TypeId} {X : AP} {out : Out} (he : rangeA E hp nx T X = some out) {β : Asg} {G : GW} (H : HInv C hp β G) (hn : hp nx = .none) {u : Value} (hu : sat X β G u) : Res P C hp β G (Instr.range T u) out := by
 unfold rangeA at he
 split at he
 · rename_i k v nb ht
   obtain ⟨a, b, hum, hka, hvb⟩ := und_mp (Env.ty_ok hE ht).1
   split at he
   · simp only [Option.some.injEq] at he; subst he
     unfold sat at hu; subst hu
     have hst := GW.alloc_step H.heap (.mapIter none 0 #[] 0) (fun _ => False) False
     obtain ⟨h1, h2⟩ := H.alloc_own (.mapIter none 0 #[] 0) (fun _ => False) False (fun h => h.elim) nx (.ob (.mit k v) ([], (dflt k, dflt v), False)) (.pointer (some ⟨G.w.heap.size, 0, none⟩)) hn (by simp)
      ⟨G.w.heap.size, rfl, .inl ⟨rfl, fun h => h, 0, #[], 0, by show (G.w.heap.push _)[G.w.heap.size]? = _; simp⟩⟩
      (fun b i hf => ⟨hf, fun h => h⟩) (fun b hf => ⟨hf, fun h => h⟩)
     refine ⟨.pointer (some ⟨G.w.heap.size, 0, none⟩), _, _, ?_, h1, h2, hst.le, by unfold sat; exact ⟨by simp, rfl⟩⟩
     simp [Instr.range, run_underlying hum, GW.alloc, run_newObj]
   · rename_i h
     unfold sat at hu
     split at he
     · rename_i k0 v0 m hh
       split at he
       · rename_i m' hm
         simp only [Option.some.injEq] at he; subst he
         unfold castDat at hm
         split at hm
         · rename_i e; cases e
           simp only [Option.some.injEq] at hm; subst hm
           obtain ⟨u', hu', hsat⟩ := H.heap.sat h (by rw [hh]; simp)
           rw [hu.1] at hu'; cases hu'
           obtain ⟨G1, e1, l1, H1⟩ := H.freezeMap hh
           obtain ⟨u', hu', hsat'⟩ := H1.heap.sat h (by simp [hset])
           rw [hu.1] at hu'; cases hu'
           simp only [hset, if_true] at hsat'
           obtain ⟨bb, es, c, rfl, q1, q2, q3, q4⟩ := hsat'
           have hne : nx ≠ h := fun e => by subst e; rw [hn] at hh; cases hh
           obtain ⟨w, β', G', r1, r2, r3, r4, r5, r6⟩ := range_im (P := P) H1 hum q1 q2 q3 q4 (nx := nx) (by simp [hset, hne, hn]) (dflt k, dflt v)
           rw [e1] at r1
           exact ⟨w, β', G', r1, r2, r3, GW.le_trans l1 r4, by unfold sat; exact ⟨r5, r6⟩⟩
         · cases hm
       · cases he
     · rename_i k0 v0 m hh
       split at he
       · rename_i m' hm
         simp only [Option.some.injEq] at he; subst he
         unfold castDat at hm
         split at hm
         · rename_i e; cases e
           simp only [Option.some.injEq] at hm; subst hm
           obtain ⟨u', hu', hsat'⟩ := H.heap.sat h (by rw [hh]; simp)
           rw [hu.1] at hu'; cases hu'
           rw [hh] at hsat'
           obtain ⟨bb, es, c, rfl, q1, q2, q3, q4⟩ := hsat'
           obtain ⟨w, β', G', r1, r2, r3, r4, r5, r6⟩ := range_im (P := P) H hum q1 q2 q3 q4 hn (dflt k, dflt v)
           exact ⟨w, β', G', r1, r2, r3, r4, by unfold sat; exact ⟨r5, r6⟩⟩
         · cases hm
       · cases he
     · cases he
   · cases he
 · cases he
theorem find_stamp (e : MapEntry) : ∀ (l : List MapEntry), (l.map (·.born)).Nodup → e ∈ l → l.find? (·.born == e.born) = some e
 | x :: l, hn, he => by
  have hn' : x.born ∉ l.map (·.born) ∧ (l.map (·.born)).Nodup := List.nodup_cons.1 hn
  rcases List.mem_cons.1 he with rfl | h
  · simp
  · have hx : (x.born == e.born) = false := by
     cases hc : x.born == e.born with
     | false => rfl
     | true => exact absurd (by rw [beq_iff_eq.1 hc]; exact List.mem_map.2 ⟨e, h, rfl⟩) hn'.1
    rw [List.find?_cons, hx]
    exact find_stamp e l hn'.2 h
theorem entryA_run {P : Program} {C : Ctx} {hp : Nat → HObj} {X : AP} {vc : List Prop} {ap : AP} (he : entryA hp X = some (vc, ap)) {β : Asg} {G : GW} (H : HInv C hp β G) {u : Value} (hu : sat X β G u) (hv : ∀ p ∈ vc, p) :
    ∃ w, (Instr.entry u).run P G.w = .ok w G.w ∧ sat ap β G w := by
 unfold entryA at he
 split at he
 · rename_i h
   unfold sat at hu
   split at he
   · rename_i k v x hh
     simp only [Option.some.injEq, Prod.mk.injEq] at he; obtain ⟨rfl, rfl⟩ := he
     obtain ⟨u', hu', hsat⟩ := H.heap.sat h (by rw [hh]; simp)
     rw [hu.1] at hu'; cases hu'
     rw [hh] at hsat
     obtain ⟨left, y, q⟩ := x
     have hq : q := hv _ List.mem_cons_self
     obtain ⟨r, rfl, hsat⟩ := hsat
     rcases hsat with ⟨_, hnq, _⟩ | ⟨b, es, c, seen, h1, h2, h3, h4, h5, h6⟩
     · exact (hnq hq).elim
     · obtain ⟨e, k1, k2, k3, k4⟩ := h6 hq
       refine ⟨.tuple #[e.key, e.val], ?_, ?_⟩
       · have hf : es.find? (·.born == e.born) = some e := by rw [← Array.find?_toList]; exact find_stamp e es.toList h4.2 k1
         have g1 : (getObj r).run P G.w = .ok (.mapIter (some b) c seen c) G.w := by simp [getObj, Sem.run, h1]
         have g2 : (getObj b).run P G.w = .ok (.map es c) G.w := by simp [getObj, Sem.run, h3]
         simp [Instr.entry, g1, g2, k2, hf, Result.andThen]
       · unfold sat
         refine ⟨[e.key, e.val], rfl, ?_⟩
         unfold satT
         refine ⟨_, _, rfl, by unfold sat; exact k3, ?_⟩
         unfold satT
         refine ⟨_, _, rfl, by unfold sat; exact k4, ?_⟩
         unfold satT; rfl
   · cases he
 · cases he
end Go.Gv

/- Soundness of the evaluators, eighth part: parts of own rows, what is appended to nil, capacities. -/
namespace Go.Gv
open Go
theorem capA_run {P : Program} {E : Env} (hE : E.ok P = true) {T ty : TypeId} {ats : Array TypeId} (a0 : ats[0]? = some T) {X ap : AP} (h : capA E T X = some ap) {β : Asg} {G : GW} {u : Value} (hu : sat X β G u) :
    ∃ r, (Builtin.cap_ ats ty #[u]).run P G.w = .ok r G.w ∧ sat ap β G r := by
 unfold capA at h
 split at h
 · rename_i t nb ht
   obtain ⟨e, hue, _, _⟩ := und_sl (Env.ty_ok hE ht).1
   simp only [Option.some.injEq] at h; subst h
   unfold sat at hu; subst hu
   refine ⟨.int .i64 0, ?_, sat_int (has_iff.2 ⟨by simp only [lo]; omega, by simp only [hi]; omega⟩)⟩
   simp [Builtin.cap_, a0, run_underlying hue, goInt]
 · cases h
theorem appendW_run {P : Program} {E : Env} (hE : E.ok P = true) {C : Ctx} {hp : Nat → HObj} {nx : Nat} {rw : Bool} {T T2 ty : TypeId} {ats : Array TypeId} (a0 : ats[0]? = some T) (a1 : ats[1]? = some T2) {X Y : AP} {out : Out} {β : Asg} {G : GW} (H : HInv C hp β G) (hn : hp nx = .none)
    (he : appendW E hp nx rw T T2 X Y = some out) (hv : ∀ p ∈ out.vc, p) {u v : Value} (hu : sat X β G u) (hw : sat Y β G v) : Res P C hp β G (Builtin.append_ ats ty #[u, v]) out := by
 unfold appendW at he
 split at he
 · rename_i k2 nb2 ht2
   split at he
   · rename_i t nb kn n ht
     obtain ⟨e, hue, hte, _⟩ := und_sl (Env.ty_ok hE ht).1
     have hue2 := und_int (Env.ty_ok hE ht2).1
     simp only [Option.some.injEq] at he; subst he
     unfold sat at hu; subst hu
     obtain ⟨rfl, hn1⟩ := int_sat hw
     have hn0 : (0 : Int) ≤ n := hv _ (by simp)
     have hrm : room n (t.size * 64) := hv _ (by simp)
     obtain ⟨k, rfl⟩ : ∃ k : Nat, n = (k : Int) := ⟨n.toNat, (Int.toNat_of_nonneg hn0).symm⟩
     have hsame : (Builtin.append_ ats ty #[.slice none 0 0, .int kn k]).run P G.w = (Builtin.append_ #[T, T2] ty #[.slice none 0 0, .int kn k]).run P G.w := by
      simp [Builtin.append_, a0, a1]
     obtain ⟨ie, hie, hie1, hie2⟩ := tym_info hte
     have hpos := tym_pos hte
     have hroom := room_nat (n := k) (b := t.size) hrm
     obtain ⟨z, hz, hz2, _⟩ := tym_zero hte G.w
     rcases Nat.eq_zero_or_pos k with rfl | hk
     · refine ⟨.slice none 0 0, _, G, ?_, H.name hn (.row t []) (.slice none 0 0) (by simp) nil_slice_sat' (fun _ _ h => h) (fun _ h => h), asg_le H.heap hn _, G.le_refl, by unfold sat; exact ⟨by simp, rfl⟩⟩
       rw [hsame]
       have hw0 : IntKind.i64.wrap 0 = 0 := by rw [IntKind.wrap_i64]; omega
       simp [Builtin.append_, run_underlying hue, run_underlying hue2, asInt, asIntOf, hw0, tym_size hte, typeInfo, hie]
     · have hzz : ie.zero = some z := by
        have := hz
        simp only [zeroValue, Sem.run_bind, typeInfo] at this
        cases hz0 : ie.zero with
        | none => simp [hie, hz0] at this
        | some z' => simp [hie, hz0] at this; rw [this]
       have hsz : ie.size = t.size := by
        have := tym_size hte G.w
        simpa [Go.sizeOf, typeInfo, hie] using this
       have hb1 : k * ie.bytes ≤ 140737488355328 := Nat.le_trans (Nat.mul_le_mul_left _ hie2) hroom
       have hkb : k ≤ 140737488355328 := Nat.le_trans (Nat.le_mul_of_pos_right _ (by omega)) hroom
       have h := Lib.run_append_grow_zeros (P := P) G.w T T2 ty e ie z kn k2 hue hue2 hie hzz none 0 0 [] rfl k hk (by rw [hsz]; exact hpos) (by omega) (by omega) (by omega) (by have := growslice_fits (need := 0 + k) (old := 0) (bytes := ie.bytes) (by omega) (by rw [Nat.zero_add]; exact hb1); omega)
       rw [Nat.zero_add] at h
       have hge := grownCap_ge G.w k 0 e
       have hcm := grownCap_le_maxLen G.w k 0 e (by simp only [maxLen]; omega)
       obtain ⟨gc, hgc⟩ : ∃ gc, gc = grownCap G.w k 0 e := ⟨_, rfl⟩
       rw [← hgc] at h hge hcm
       have hzl : z.cells.toList.length = t.size := by rw [hz2]; exact Rep.length t (Rep.zero t G)
       have hzs : z.cells.size = t.size := by simpa using hzl
       have hcs : ((([] : List Value).toArray ++ Builtin.zeroCells z.cells k ++ Builtin.zeroCells z.cells (gc - k)) : Array Value) = (Array.range (gc * t.size)).map (fun j => z.cells[j % z.cells.size]!) := by
        apply Array.ext_getElem?
        intro j
        have hsplit : k * t.size + (gc - k) * t.size = gc * t.size := by rw [← Nat.add_mul]; congr 1; omega
        rw [show (([] : List Value).toArray) = #[] from rfl, Array.empty_append]
        simp only [Builtin.zeroCells, hzs]
        by_cases h1 : j < k * t.size
        · rw [Array.getElem?_append_left (by simpa using h1)]
          simp only [Array.getElem?_map, Array.getElem?_range, h1, if_true]
          rw [if_pos (by omega)]
        · rw [Array.getElem?_append_right (by simpa using Nat.le_of_not_lt h1)]
          simp only [Array.size_map, Array.size_range, Array.getElem?_map, Array.getElem?_range]
          by_cases h2 : j < gc * t.size
          · rw [if_pos (by omega), if_pos h2]
            simp only [Option.map_some]
            congr 2
            rw [show j = j - k * t.size + k * t.size by omega, Nat.add_mul_mod_self_right, Nat.add_sub_cancel]
          · rw [if_neg (by omega), if_neg h2]
       rw [hcs] at h
       obtain ⟨β', h5, h6, h7⟩ := alloc_row H.drew ((Array.range (gc * t.size)).map (fun j => z.cells[j % z.cells.size]!)) e t (List.replicate k (dflt t)) gc hn (by simp) (by rw [List.length_replicate]; exact hge) hcm (fun i x hx => by
        have hi : i < k := by have := (List.getElem?_eq_some_iff.1 hx).1; simpa using this
        have hxe : x = dflt t := by have := (List.getElem?_eq_some_iff.1 hx).2; simpa using this.symm
        rw [hxe]
        have := rep_part (G := { G with w := G.w.drew }) (t := t) gc z.cells.toList hzl (by rw [hz2]; exact Rep.zero t _) i (by omega)
        simpa using this)
       rw [List.length_replicate] at h7
       refine ⟨_, β', _, hsame.trans h, ?_, h6, GW.le_trans (GW.le_drew G) (GW.alloc_step H.drew.heap _ _ _).le, h7⟩
       simpa using h5
   · cases he
 · split at he
   · rename_i t nb ht
     obtain ⟨e, hue, hte, _⟩ := und_sl (Env.ty_ok hE ht).1
     have hpos := tym_pos hte
     split at he
     · rename_i ys hys
       obtain ⟨M, hX, hMr⟩ := elemsT_run hE H.hs hys hw
       have hM := hX.hM
       simp only [Option.some.injEq] at he; subst he
       unfold sat at hu; subst hu
       have hroom := room_nat (hv _ List.mem_cons_self)
       rcases append_run (P := P) (e := e) ty a0 a1 hue hte G.w none v 0 0 ys.length [] M hX (Nat.le_refl _) (fun _ => rfl) (by simp) (fun a h => by cases h) (fun _ a h => by cases h) (by rw [Nat.zero_add]; exact hroom) with ⟨_, h1, h2⟩ | ⟨_, _, a, h1, _⟩ | ⟨_, nc, rest, h1, h2, h3, h4⟩
       · have hy0 : ys = [] := List.eq_nil_of_length_eq_zero h1
         subst hy0
         exact ⟨_, _, G, h2, H.name hn (.row t []) (.slice none 0 0) (by simp) nil_slice_sat' (fun _ _ h => h) (fun _ h => h), asg_le H.heap hn _, G.le_refl, by unfold sat; exact ⟨by simp, rfl⟩⟩
       · cases h1
       · rw [Nat.zero_add] at h1 h2 h4
         obtain ⟨β', h5, h6, h7⟩ := alloc_row H.drew ([] ++ M ++ rest).toArray e t ys nc hn (by simp [hM, h4, Nat.sub_mul]; have := Nat.mul_le_mul_right t.size h2; omega) h2 h3 (fun i x hx => by
          have := rep_append (G := { G with w := G.w.drew }) (rest := rest) (xs := []) (ys := ys) (L := []) (by simp) hM (fun i x h => by simp at h) (fun i x h => Rep.mono t (hMr i x h) (GW.le_drew G)) i x (by simpa using hx)
          simpa using this)
         exact ⟨_, β', _, h1, h5, h6, GW.le_trans (GW.le_drew G) (GW.alloc_step H.drew.heap _ _ _).le, h7⟩
     · cases he
   · exact appendV_run hE a0 a1 H hn he hv hu hw
where
 nil_slice_sat' {t : Ty} {β : Asg} {G : GW} : satH (.row t []) (.slice none 0 0) β G := ⟨none, 0, rfl, Nat.le_refl _, Nat.zero_le _, fun _ => rfl, fun _ h => by cases h⟩
theorem partW_run {P : Program} {E : Env} (hE : E.ok P = true) {C : Ctx} {hp : Nat → HObj} {nx : Nat} {T : TypeId} {X : AP} {lo hi mx : Option AP} {out : Out} {β : Asg} {G : GW} (H : HInv C hp β G) (hn : hp nx = .none)
    (he : partW E hp nx T X lo hi mx = some out) (hv : ∀ p ∈ out.vc, p) {v : Value} {ol oh om : Option Value} (hu : sat X β G v) (bl : Bnd β G lo ol) (bh : Bnd β G hi oh) (bm : Bnd β G mx om) (hmh : mx ≠ none → hi ≠ none) : Res P C hp β G (Instr.sliceAt T v ol oh om) out := by
 unfold partW at he
 split at he
 · rename_i t nb ht
   obtain ⟨e, hue, hte, _⟩ := und_sl (Env.ty_ok hE ht).1
   split at he
   · rename_i a b ha hb
     simp only [Option.some.injEq] at he; subst he
     unfold sat at hu; subst hu
     have h0 : 0 ≤ a := hv _ (by simp [vcPart])
     have h1 : a ≤ b := hv _ (by simp [vcPart])
     have h2 : b ≤ 0 := hv _ (by simp [vcPart])
     have hbr := bounds_run (P := P) true 0 0 bl bh bm (m := 0) ha hb (Nat.le_refl _) h0 h1 h2 (.inl ⟨rfl, rfl⟩) G.w
     have e3 := bm.nn rfl; subst e3
     have ea : a = 0 := by omega
     have eb : b = 0 := by omega
     subst ea; subst eb
     refine Res.pure H (v := .slice none 0 0) ?_ (by unfold sat; rfl)
     simp only [Instr.sliceAt, Sem.run_bind, underlying, run_program, Result.andThen_ok, hue, Sem.run_pure, Instr.slice, hbr, tym_size hte]
     rfl
   · cases he
 · rename_i t nb h ht
   split at he
   · rename_i u xs hh
     obtain ⟨e, hue, hte, _⟩ := und_sl (Env.ty_ok hE ht).1
     split at he
     · rename_i a b hd ha hb
       have hd := of_decide_eq_true hd; subst hd
       simp only [Option.some.injEq] at he; subst he
       unfold sat at hu
       obtain ⟨hbv, hone⟩ := hu
       obtain ⟨u', hu', hsat⟩ := H.heap.sat h (by rw [hh]; simp)
       rw [hbv] at hu'; cases hu'
       rw [hh] at hsat
       obtain ⟨base, cap, rfl, c1, c2, c3, c4⟩ := hsat
       have h0 : 0 ≤ a := hv _ (by simp [vcPart])
       have h1 : a ≤ b := hv _ (by simp [vcPart])
       have h2 : b ≤ xs.length := hv _ (by simp [vcPart])
       have hbr := bounds_run (P := P) true xs.length cap bl bh bm (m := cap) ha hb c1 h0 h1 h2 (.inl ⟨rfl, rfl⟩) G.w
       obtain ⟨aN, rfl⟩ : ∃ k : Nat, a = (k : Int) := ⟨a.toNat, (Int.toNat_of_nonneg h0).symm⟩
       obtain ⟨bN, rfl⟩ : ∃ k : Nat, b = (k : Int) := ⟨b.toNat, (Int.toNat_of_nonneg (by omega)).symm⟩
       have h1' : aN ≤ bN := by omega
       have h2' : bN ≤ xs.length := by omega
       have hrun : (Instr.sliceAt T (.slice base xs.length cap) ol oh om).run P G.w = .ok (.slice (if cap = aN then base else base.map (·.add (aN * u.size))) (bN - aN) (cap - aN)) G.w := by
        simp only [Instr.sliceAt, Sem.run_bind, underlying, run_program, Result.andThen_ok, hue, Sem.run_pure, Instr.slice, hbr, tym_size hte, Int.toNat_natCast]
       have hlen : ((xs.take bN).drop aN).length = bN - aN := by rw [List.length_drop, List.length_take]; omega
       have hin : ∀ bb i, fpc (.row u ((xs.take bN).drop aN)) (.slice (if cap = aN then base else base.map (·.add (aN * u.size))) (bN - aN) (cap - aN)) bb i → fpc (hp h) (.slice base xs.length cap) bb i := fun bb i hf => by
        rw [hh]
        have hmul : aN * u.size + (cap - aN) * u.size = cap * u.size := by rw [← Nat.add_mul]; congr 1; omega
        by_cases hca : cap = aN
        · rw [if_pos hca] at hf
          cases base with
          | none => exact hf
          | some ad =>
           obtain ⟨f1, f2, f3⟩ := hf
           rw [show cap - aN = 0 by omega, Nat.zero_mul] at f3
           omega
        · rw [if_neg hca] at hf
          cases base with
          | none => exact hf
          | some ad =>
           have hsp := (c4 ad rfl).1 (by omega)
           simp only [Option.map_some, addr_add ad hsp] at hf
           obtain ⟨f1, f2, f3⟩ := hf
           dsimp only at f1 f2 f3
           exact ⟨f1, by omega, by omega⟩
       have hsat2 : ∀ β2 : Asg, satH (.row u ((xs.take bN).drop aN)) (.slice (if cap = aN then base else base.map (·.add (aN * u.size))) (bN - aN) (cap - aN)) β2 G := fun β2 => by
        refine ⟨_, cap - aN, by rw [hlen], by rw [hlen]; omega, by omega, fun hb0 => ?_, fun ad' had => ?_⟩
        · by_cases hca : cap = aN
          · omega
          · rw [if_neg hca] at hb0
            cases base with
            | none => have := c3 rfl; omega
            | some ad => simp at hb0
        · by_cases hca : cap = aN
          · rw [if_pos hca] at had
            refine ⟨fun hc0 => by omega, fun j hj => ?_, fun i x hx => ?_⟩
            · rw [show cap - aN = 0 by omega, Nat.zero_mul] at hj; omega
            · have := (List.getElem?_eq_some_iff.1 hx).1
              rw [hlen] at this; omega
          · rw [if_neg hca] at had
            cases base with
            | none => simp at had
            | some ad =>
             have hsp := (c4 ad rfl).1 (by omega)
             simp only [Option.map_some, addr_add ad hsp, Option.some.injEq] at had
             subst had
             have hmul : aN * u.size + (cap - aN) * u.size = cap * u.size := by rw [← Nat.add_mul]; congr 1; omega
             refine ⟨fun _ => rfl, fun j hj => ?_, fun i x hx => ?_⟩
             · have := (c4 ad rfl).2.1 (aN * u.size + j) (by omega)
               rwa [← Nat.add_assoc] at this
             · rw [List.getElem?_drop, List.getElem?_take] at hx
               split at hx
               · obtain ⟨cells, hc, hr⟩ := (c4 ad rfl).2.2 _ x hx
                 refine ⟨cells, fun j w hw => ?_, hr⟩
                 have := hc j w hw
                 rwa [show ad.off + (aN + i) * u.size = ad.off + aN * u.size + i * u.size by rw [Nat.add_mul]; omega] at this
               · cases hx
       obtain ⟨h5, h6⟩ := H.move h nx (.slice base xs.length cap) _ (.row u ((xs.take bN).drop aN)) hbv hn (by simp) (Step.refl _ _ G) (hsat2 _)
        (fun bb i hf => ⟨.inl (hin bb i hf), H.heap.im h _ hbv bb i (hin bb i hf)⟩) (fun bb hf => by cases hf) H.heap.old H.heap.oldo
       refine ⟨_, _, G, hrun, h5, h6, G.le_refl, by unfold sat; exact ⟨by simp, rfl⟩⟩
     · cases he
   · exact partOfA_run hE H hn he hv hu bl bh bm hmh
 · exact partOfA_run hE H hn he hv hu bl bh bm hmh
end Go.Gv

/- Soundness of the evaluators, last part: one operation. -/
namespace Go.Gv
open Go
theorem OpRun.of_res {P : Program} {C : Ctx} {hp : Nat → HObj} {β : Asg} {a : Act} {G : GW} {o : Oper} {out : Out} {s : Sem Value} (hex : execOp a.eval o = (do Pure.pure (.value (← s)))) (h : Res P C hp β G s out) : OpRun P C hp β a G o out := by
 obtain ⟨v, β', G', h1, h2, h3, h4, h5⟩ := h
 exact ⟨.value v, v, β', G', by rw [hex]; simp [h1], .inl rfl, h2, h3, h4, h5⟩
theorem OpRun.of_pure {P : Program} {C : Ctx} {hp : Nat → HObj} {β : Asg} {a : Act} {G : GW} {o : Oper} {vc : List Prop} {ap : AP} {k : Nat} {s : Sem Value} (H : HInv C hp β G) (hex : execOp a.eval o = (do Pure.pure (.value (← s)))) (h : ∃ r, s.run P G.w = .ok r G.w ∧ sat ap β G r) :
    OpRun P C hp β a G o { vc := vc, ap := ap, hw := [], k := k } := by
 obtain ⟨r, h1, h2⟩ := h
 exact ⟨.value r, r, β, G, by rw [hex]; simp [h1], .inl rfl, H, Asg.le_refl β, G.le_refl, h2⟩
theorem OpRun.of_unit {P : Program} {C : Ctx} {hp : Nat → HObj} {β : Asg} {a : Act} {G : GW} {o : Oper} {vc : List Prop} {h : Nat} {ob : HObj} {s : Sem Unit} (hex : execOp a.eval o = (do s; Pure.pure .skip)) (hh : ∃ G', s.run P G.w = .ok () G'.w ∧ HInv C (hset hp [(h, ob)]) β G' ∧ G.le G') :
    OpRun P C hp β a G o { vc := vc, ap := .any, hw := [(h, ob)] } := by
 obtain ⟨G', h1, h2, h3⟩ := hh
 exact ⟨.skip, undef, β, G', by rw [hex]; simp [h1], .inr ⟨rfl, rfl⟩, h2, Asg.le_refl β, h3, by unfold sat; trivial⟩
theorem OpRun.of_pure2 {P : Program} {C : Ctx} {hp : Nat → HObj} {β : Asg} {a : Act} {G : GW} {o : Oper} {out : Out} {s : Sem Value} {r : Option (List Prop × AP)} (H : HInv C hp β G) (hex : execOp a.eval o = (do Pure.pure (.value (← s)))) (he : pure2 r = some out)
    (h : ∀ vc ap, r = some (vc, ap) → out.vc = vc → ∃ v, s.run P G.w = .ok v G.w ∧ sat ap β G v) : OpRun P C hp β a G o out := by
 unfold pure2 at he
 split at he
 · simp only [Option.some.injEq] at he; subst he
   exact .of_pure H hex (h _ _ rfl rfl)
 · cases he
theorem OpRun.of_pure1 {P : Program} {C : Ctx} {hp : Nat → HObj} {β : Asg} {a : Act} {G : GW} {o : Oper} {out : Out} {s : Sem Value} {r : Option AP} (H : HInv C hp β G) (hex : execOp a.eval o = (do Pure.pure (.value (← s)))) (he : pure1 r = some out)
    (h : ∀ ap, r = some ap → ∃ v, s.run P G.w = .ok v G.w ∧ sat ap β G v) : OpRun P C hp β a G o out := by
 unfold pure1 at he
 split at he
 · simp only [Option.some.injEq] at he; subst he
   exact .of_pure H hex (h _ rfl)
 · cases he
theorem satT_nth {β : Asg} {G : GW} : ∀ {i : Nat} {vs X : AP} {l : List Value}, nthA i vs = some X → satT vs β G l → ∃ v, l[i]? = some v ∧ sat X β G v
 | 0, .cons x _, X, l, h, hs => by
  simp only [nthA, Option.some.injEq] at h; subst h
  unfold satT at hs
  obtain ⟨v, l', rfl, h1, _⟩ := hs
  exact ⟨v, rfl, h1⟩
 | i + 1, .cons _ r, X, l, h, hs => by
  unfold satT at hs
  obtain ⟨v, l', rfl, _, h2⟩ := hs
  obtain ⟨u, h3, h4⟩ := satT_nth (i := i) (by simpa [nthA] using h) h2
  exact ⟨u, h3, h4⟩
theorem encode_ascii {n : Int} (h0 : 0 ≤ n) (h1 : n < 128) : Utf8.encode n = ⟨⟨[byteOf n]⟩⟩ := by
 have hval : Utf8.valid n = true := by simp [Utf8.valid]; omega
 have hlt : n.toNat < 128 := by omega
 simp only [Utf8.encode, hval, if_true, hlt]
 rfl
theorem convA_run {P : Program} {E : Env} (hE : E.ok P = true) {S D : TypeId} {X ap : AP} {vc : List Prop} (h : convA E S D X = some (vc, ap)) (hv : ∀ p ∈ vc, p) {β : Asg} {G : GW} {u : Value} (hu : sat X β G u) :
    ∃ r, (convert S D u).run P G.w = .ok r G.w ∧ sat ap β G r := by
 unfold convA at h
 split at h
 · rename_i k1 n1 k n2 k3 n hs hd
   simp only [Option.some.injEq, Prod.mk.injEq] at h; obtain ⟨rfl, rfl⟩ := h
   obtain ⟨rfl, _⟩ := int_sat hu
   have h1 : k.has n := has_iff.2 ⟨hv _ (by simp [vcRange]), hv _ (by simp [vcRange])⟩
   refine ⟨.int k n, ?_, sat_int h1⟩
   simp [convert, run_underlying (und_int (Env.ty_ok hE hs).1), run_underlying (und_int (Env.ty_ok hE hd).1), Conv.intToInt, wrap_of_has h1]
 · rename_i k1 n1 n2 k3 n hs hd
   simp only [Option.some.injEq, Prod.mk.injEq] at h; obtain ⟨rfl, rfl⟩ := h
   obtain ⟨rfl, _⟩ := int_sat hu
   have h0 : 0 ≤ n := hv _ (by simp [vcAscii])
   have h1 : n < 128 := hv _ (by simp [vcAscii])
   refine ⟨strV [byteOf n], ?_, ?_⟩
   · rw [run_convert_int_string _ _ _ _ _ (by rw [und_int (Env.ty_ok hE hs).1]; rfl) (und_str (Env.ty_ok hE hd).1)]
     rw [encode_ascii h0 h1]; rfl
   · unfold sat
     exact .of_one rfl ⟨rfl, by simp [maxLen]⟩
 · cases h
theorem convW_run {P : Program} {E : Env} (hE : E.ok P = true) {S D : TypeId} {X ap : AP} (h : convW E S D X = some ap) {β : Asg} {G : GW} {u : Value} (hu : sat X β G u) :
    ∃ r, (convert S D u).run P G.w = .ok r G.w ∧ sat ap β G r := by
 unfold convW at h
 split at h
 · rename_i k1 n1 k n2 k3 n hs hd
   split at h
   · rename_i m hm
     simp only [Option.some.injEq] at h; subst h
     obtain ⟨rfl, _⟩ := int_sat hu
     obtain ⟨h1, h2⟩ := modOf_wrap hm n
     refine ⟨.int k (n % m), ?_, sat_int h2⟩
     simp [convert, run_underlying (und_int (Env.ty_ok hE hs).1), run_underlying (und_int (Env.ty_ok hE hd).1), Conv.intToInt, h1]
   · cases h
 · cases h
theorem foldl_bytes : ∀ (ns : List Int) (b : ByteArray), (ns.foldl (fun r n => r.push (UInt8.ofNat n.toNat)) b) = ⟨⟨b.data.toList ++ ns.map byteOf⟩⟩
 | [], b => by simp
 | n :: ns, b => by
  simp only [List.foldl_cons, foldl_bytes ns, List.map_cons]
  congr 2
  simp [ByteArray.push, byteOf]
theorem bstrA_run {P : Program} {E : Env} (hE : E.ok P = true) {hp : Nat → HObj} {S D : TypeId} {X ap : AP} (h : bstrA E hp S D X = some ap) {β : Asg} {G : GW} (H : HeapSat hp β G) {u : Value} (hu : sat X β G u) :
    ∃ r, (convert S D u).run P G.w = .ok r G.w ∧ sat ap β G r := by
 unfold bstrA at h
 split at h
 · rename_i n1 n2 hs hd
   split at h
   · rename_i xs hxs
     simp only [Option.some.injEq] at h; subst h
     obtain ⟨own, hr⟩ := elemsA_reads H hxs hu
     obtain ⟨base, cap, rfl, h1, h2, h3, L, l1, _, l3, l4, _⟩ := readsAs_cells hr
     obtain ⟨e, hue, hte, _⟩ := und_sl (Env.ty_ok hE hs).1
     have hL : L = xs.map (Value.int .u8) := by
      have hlen : L.length = xs.length := by rw [l1]; exact Nat.mul_one _
      refine List.ext_getElem (by rw [hlen, List.length_map]) (fun i i1 i2 => ?_)
      have hi : i < xs.length := by omega
      have hr1 := l4 i _ (List.getElem?_eq_getElem hi)
      unfold Rep at hr1
      have h5 := hr1.1
      have h6 : (L.drop (i * (Ty.int IntKind.u8).size)).take (Ty.int IntKind.u8).size = [L[i]] := by
       show (L.drop (i * 1)).take 1 = [L[i]]
       rw [Nat.mul_one, List.drop_eq_getElem_cons i1, List.take_succ_cons, List.take_zero]
      rw [h6] at h5
      simp only [List.cons.injEq, and_true] at h5
      rw [h5, List.getElem_map]
     have hmx : List.length (xs.map byteOf) ≤ maxLen := by rw [List.length_map]; omega
     refine ⟨strV (xs.map byteOf), ?_, ?_⟩
     · rw [run_convert_bytes_string G.w S D e base xs.length cap hue (und_int hte) (und_str (Env.ty_ok hE hd).1)]
       cases base with
       | none =>
        have := h3 rfl
        have hx : xs = [] := List.eq_nil_of_length_eq_zero (by omega)
        subst hx
        rfl
       | some a =>
        obtain ⟨hsp, hc⟩ := l3 a rfl
        have hld := run_loadCells_list (P := P) G.w a L (fun j v hv => by
         have hn : 0 < L.length := by have := (List.getElem?_eq_some_iff.1 hv).1; omega
         rw [addr_add a (hsp (by have : L.length = xs.length := by rw [l1]; exact Nat.mul_one _
                                 omega))]; exact hc j v hv)
        have hlen : L.length = xs.length := by rw [l1]; exact Nat.mul_one _
        rw [hlen, hL] at hld
        rw [run_bytesToString G.w a xs.length cap xs hld, foldl_bytes]
        rfl
     · unfold sat
       exact .of_one rfl ⟨rfl, hmx⟩
   · cases h
 · cases h
theorem len_has {n : Nat} (h : n ≤ maxLen) : IntKind.i64.has (n : Int) := has_iff.2 (by simp only [maxLen] at h; simp only [lo, hi]; omega)
theorem lenOfA_run {P : Program} {E : Env} (hE : E.ok P = true) {hp : Nat → HObj} {T ty : TypeId} {ats : Array TypeId} (a0 : ats[0]? = some T) {X ap : AP} {vc : List Prop} (h : lenOfA E hp T X = some (vc, ap)) (hv : ∀ p ∈ vc, p) {β : Asg} {G : GW} (H : HeapSat hp β G) {u : Value} (hu : sat X β G u) :
    ∃ r, (Builtin.len_ ats ty #[u]).run P G.w = .ok r G.w ∧ sat ap β G r := by
 unfold lenOfA at h
 split at h
 · rename_i nb ht
   have hue := und_str (Env.ty_ok hE ht).1
   split at h
   · rename_i s
     simp only [Option.some.injEq, Prod.mk.injEq] at h; obtain ⟨rfl, rfl⟩ := h
     obtain ⟨rfl, hl⟩ := str_sat hu
     refine ⟨.int .i64 s.length, ?_, sat_int (len_has hl)⟩
     have hsz : (⟨⟨s⟩⟩ : ByteArray).size = s.length := rfl
     simp [Builtin.len_, a0, run_underlying hue, strV, goInt, hsz]
   · cases h
 · rename_i t nb ht
   obtain ⟨e, hue, _, _⟩ := und_sl (Env.ty_ok hE ht).1
   split at h
   · simp only [Option.some.injEq, Prod.mk.injEq] at h; obtain ⟨rfl, rfl⟩ := h
     unfold sat at hu; subst hu
     refine ⟨.int .i64 0, ?_, sat_int (len_has (n := 0) (Nat.zero_le _))⟩
     simp [Builtin.len_, a0, run_underlying hue, goInt]
   · have key : ∀ (t' : Ty) (xs : List (Dat t')) own, ReadsAs G t' xs u own → ∃ r, (Builtin.len_ ats ty #[u]).run P G.w = .ok r G.w ∧ sat (.dat (.int .i64) (xs.length : Int)) β G r := by
      intro t' xs own hr
      obtain ⟨base, cap, rfl, h1, h2, _⟩ := hr.ex
      refine ⟨.int .i64 xs.length, ?_, sat_int (len_has (Nat.le_trans h1 h2))⟩
      simp [Builtin.len_, a0, run_underlying hue, goInt]
     split at h
     · rename_i hX
       simp only [Option.some.injEq, Prod.mk.injEq] at h; obtain ⟨rfl, rfl⟩ := h
       exact key _ _ _ (readsAs_im (slV_im H hX hu))
     · rename_i hX
       simp only [Option.some.injEq, Prod.mk.injEq] at h; obtain ⟨rfl, rfl⟩ := h
       exact key _ _ _ (readsAs_own (slV_own H hX hu).2.2)
     · cases h
 · rename_i n t nb ht
   obtain ⟨e, hue, _, _⟩ := und_arr (Env.ty_ok hE ht).1
   split at h
   · rename_i hn
     have hn := Nat.le_of_ble_eq_true hn
     simp only [Option.some.injEq, Prod.mk.injEq] at h; obtain ⟨rfl, rfl⟩ := h
     refine ⟨.int .i64 n, ?_, sat_int (len_has (Nat.le_trans hn (by simp only [maxLen]; omega)))⟩
     simp [Builtin.len_, a0, run_underlying hue, goInt]
   · cases h
 · rename_i k v nb ht
   obtain ⟨a, b, hum, _, _⟩ := und_mp (Env.ty_ok hE ht).1
   split at h
   · rename_i m hm
     simp only [Option.some.injEq, Prod.mk.injEq] at h; obtain ⟨rfl, rfl⟩ := h
     have hlen : m.length ≤ maxLen := hv _ (by simp)
     refine ⟨.int .i64 m.length, ?_, sat_int (len_has hlen)⟩
     rcases mpV_sat H hm hu with ⟨rfl, rfl⟩ | ⟨bb, es, c, rfl, hb, hr⟩
     · simp [Builtin.len_, a0, run_underlying hum, goInt]
     · simp [Builtin.len_, a0, run_underlying hum, MapKept.run_getObj_map hb, goInt, hr.1, Result.andThen]
   · cases h
 · cases h
theorem newObj_run {P : Program} (w : World) (o : Obj) : (newObj o).run P w = .ok w.heap.size (w.alloc o) := rfl
theorem makeMap_run {P : Program} {C : Ctx} {hp : Nat → HObj} {β : Asg} {G : GW} (H : HInv C hp β G) {T : TypeId} {nx : Nat} (hn : hp nx = .none) (k v : Ty) {rs : Option Value} (hr : ∀ r, rs = some r → (∃ a b, P.underlying T = some (.map a b)) ∧ ∃ kk n, r = .int kk n) :
    Res P C hp β G (Instr.makeMap T rs) { vc := [], ap := .ref nx, hw := [(nx, .map k v [])], k := 1 } := by
 have hst := GW.alloc_step H.heap (.map #[] 0) (fun _ => False) False
 obtain ⟨h1, h2⟩ := H.alloc_own (.map #[] 0) (fun _ => False) False (fun h => h.elim) nx (.map k v []) (.map (some G.w.heap.size)) hn (by simp)
  ⟨G.w.heap.size, #[], 0, rfl, by show (G.w.heap.push _)[G.w.heap.size]? = _; simp, ⟨rfl, fun i e he => by simp at he⟩, ⟨fun e he => by simp at he, by simp⟩⟩
  (fun b i hf => by cases hf) (fun b hf => ⟨hf, fun h => h⟩)
 refine ⟨.map (some G.w.heap.size), _, _, ?_, h1, h2, hst.le, by unfold sat; exact ⟨by simp, rfl⟩⟩
 cases rs with
 | none => simp [Instr.makeMap, newObj_run, GW.alloc, -run_newObj]
 | some r =>
  obtain ⟨⟨x, y, hu⟩, kk, n, rfl⟩ := hr r rfl
  simp [Instr.makeMap, newObj_run, GW.alloc, run_underlying hu, asInt, asIntOf, -run_newObj]
theorem some_of_ite {α : Type} {c : Prop} [Decidable c] {x y : α} (h : (if c then some x else none) = some y) : c ∧ x = y := by
 split at h
 · exact ⟨by assumption, Option.some.inj h⟩
 · cases h
theorem satT_listA {β : Asg} {G : GW} : ∀ (args : List AP) (l : List Value), args.length = l.length → (∀ (i : Nat) (X : AP), args[i]? = some X → ∃ v, l[i]? = some v ∧ sat X β G v) → satT (listA args) β G l
 | [], l, hl, _ => by
  have : l = [] := List.eq_nil_of_length_eq_zero hl.symm
  subst this
  unfold listA satT; rfl
 | X :: args, [], hl, _ => by simp at hl
 | X :: args, v :: l, hl, h => by
  unfold listA satT
  obtain ⟨u, hu, hs⟩ := h 0 X rfl
  cases hu
  exact ⟨_, _, rfl, hs, satT_listA args l (by simpa using hl) (fun i Y hY => h (i + 1) Y hY)⟩
theorem func_caps (f : Fn) (caps : Array Operand) {a : Act} : Value.func f ((#[] : Array Operand).map a.eval) (caps.map a.eval) = .func f #[] (caps.toList.map a.eval).toArray := by
 have : caps.map a.eval = (caps.toList.map a.eval).toArray := by
  apply Array.ext'
  simp only [Array.toList_map]
 rw [this, Array.map_empty]
theorem bnd_none {β : Asg} {G : GW} : Bnd β G none none := ⟨fun _ h => (by cases h), fun _ => rfl⟩
theorem bnd_some {β : Asg} {G : GW} {X : AP} {v : Value} (h : sat X β G v) : Bnd β G (some X) (some v) := ⟨fun _ e => (by cases e; exact ⟨v, rfl, h⟩), fun e => (by cases e)⟩
theorem negW_run {P : Program} {X ap : AP} (h : negW X = some ap) {β : Asg} {G : GW} {u : Value} (hu : sat X β G u) : ∃ r, (Op.unary .neg u).run P G.w = .ok r G.w ∧ sat ap β G r := by
 unfold negW at h
 split at h
 · rename_i k n
   split at h
   · rename_i m hm
     simp only [Option.some.injEq] at h; subst h
     obtain ⟨rfl, _⟩ := int_sat hu
     obtain ⟨h1, h2⟩ := modOf_wrap hm (-n)
     exact ⟨_, by simp [Op.unary, Op.intArith, h1], sat_int h2⟩
   · cases h
 · cases h
theorem evalOp_sound {P : Program} {E : Env} (hE : E.ok P = true) {C : Ctx} {hp : Nat → HObj} {nx : Nat} {cond : Bool} {dst : Option Nat} {o : Oper} {args : List AP} {out : Out} {β : Asg} {a : Act} {G : GW} (H : HInv C hp β G) (hn : hp nx = .none)
    (he : evalOp E hp nx cond dst o.op args = some out) (hv : ∀ p ∈ out.vc, p) (hl : args.length = (opnds o.op).length) (ha : ∀ (i : Nat) (X : AP), args[i]? = some X → ∃ x, (opnds o.op)[i]? = some x ∧ sat X β G (a.eval x)) : OpRun P C hp β a G o out := by
 obtain ⟨dst', op, type, pos, after, guard⟩ := o
 dsimp only at he ha hl
 cases op
 case move x =>
  simp only [evalOp] at he
  split at he
  · simp only [Option.some.injEq] at he; subst he
    obtain ⟨_, e, hs⟩ := ha 0 _ rfl
    cases e
    exact .pure H rfl hs
  · cases he
 case assign x =>
  simp only [evalOp] at he
  split at he
  · simp only [Option.some.injEq] at he; subst he
    obtain ⟨_, e, hs⟩ := ha 0 _ rfl
    cases e
    exact .pure H rfl hs
  · cases he
 case alloc T =>
  simp only [evalOp] at he
  exact .of_res rfl (allocA_run hE he H hn)
 case box T x =>
  simp only [evalOp] at he
  split at he
  · obtain ⟨_, e, hs⟩ := ha 0 _ rfl
    cases e
    exact .of_res rfl (boxA_run he H hn hs)
  · cases he
 case build T ps =>
  simp only [evalOp] at he
  refine .of_pure1 H rfl he fun ap hap => ?_
  have := buildA_run (P := P) hE (G := G) (β := β) (ps := ps.toList.map fun p => (p.1, a.eval p.2)) (T := T) (Xs := args) (ap := ap) (by rw [List.map_map]; exact hap) (fun i X hX => by
   obtain ⟨x, hx, hs⟩ := ha i X hX
   refine ⟨_, ?_, hs⟩
   simp only [opnds] at hx
   rw [List.map_map]
   rw [List.getElem?_map, Option.map_eq_some_iff] at hx ⊢
   obtain ⟨p, hp1, rfl⟩ := hx
   exact ⟨p, hp1, rfl⟩)
  have e : (ps.toList.map fun p => (p.1, a.eval p.2)).toArray = ps.map fun p => (p.1, a.eval p.2) := by
   apply Array.ext'
   simp only [Array.toList_map]
  rw [e] at this
  exact this
 case buildSlice T n ps =>
  simp only [evalOp] at he
  have := buildSliceA_run (P := P) hE (C := C) (G := G) (β := β) (ps := ps.toList.map fun p => (p.1, a.eval p.2)) (T := T) (Xs := args) (n := n) (out := out) H hn (cond := cond) (by rw [List.map_map]; exact he) (fun i X hX => by
   obtain ⟨x, hx, hs⟩ := ha i X hX
   refine ⟨_, ?_, hs⟩
   simp only [opnds] at hx
   rw [List.map_map]
   rw [List.getElem?_map, Option.map_eq_some_iff] at hx ⊢
   obtain ⟨p, hp1, rfl⟩ := hx
   exact ⟨p, hp1, rfl⟩)
  have e : (ps.toList.map fun p => (p.1, a.eval p.2)).toArray = ps.map fun p => (p.1, a.eval p.2) := by
   apply Array.ext'
   simp only [Array.toList_map]
  rw [e] at this
  exact .of_res rfl this
 case load T x =>
  simp only [evalOp] at he
  split at he
  · obtain ⟨_, e, hs⟩ := ha 0 _ rfl
    cases e
    exact .of_pure2 H rfl he fun vc ap hr hvc => loadA_run hE hr (hvc ▸ hv) H.hs hs
  · cases he
 case store T x y =>
  simp only [evalOp] at he
  split at he
  · split at he
    · rename_i hr
      simp only [Option.some.injEq] at he; subst he
      obtain ⟨_, e, hs⟩ := ha 0 _ rfl
      cases e
      obtain ⟨_, e, hs1⟩ := ha 1 _ rfl
      cases e
      exact .of_unit rfl (storeA_run hE hr hv H hs hs1)
    · cases he
  · cases he
 case nilCheck x =>
  simp only [evalOp] at he
  split at he
  · split at he
    · rename_i hnil
      simp only [Option.some.injEq] at he; subst he
      obtain ⟨_, e, hs⟩ := ha 0 _ rfl
      cases e
      obtain ⟨ad, hx, had⟩ := nilOf_sat hnil hs
      cases ad with
      | none => simp at had
      | some ad => exact .pure H (by simp [execOp, hx]) (hx ▸ hs)
    · cases he
  · cases he
 case binOp b T x y r =>
  simp only [evalOp] at he
  split at he
  · obtain ⟨_, e, hs⟩ := ha 0 _ rfl
    cases e
    obtain ⟨_, e, hs1⟩ := ha 1 _ rfl
    cases e
    split at he
    · exact .of_pure1 H rfl he fun ap hr => wrapA_run hr hs hs1 x y G.w
    · exact .of_pure2 H rfl he fun vc ap hr hvc => binA_run hE hr (hvc ▸ hv) hs hs1 x y G.w
  · cases he
 case unOp u T x =>
  cases u
  case not =>
   simp only [evalOp] at he
   split at he
   · obtain ⟨_, e, hs⟩ := ha 0 _ rfl
     cases e
     split at he
     · rename_i bb
       simp only [Option.some.injEq] at he; subst he
       unfold sat at hs
       exact .of_pure H (s := Op.unary .not (a.eval x)) rfl ⟨.bool (!bb), by rw [hs]; simp [Op.unary], by unfold sat; rfl⟩
     · split at he
       · rename_i p hp'
         simp only [Option.some.injEq] at he; subst he
         obtain ⟨bb, hbb, hiff⟩ := prop_val (propOf_sat hp' hs)
         refine .of_pure H (s := Op.unary .not (a.eval x)) rfl ⟨.bool (!bb), by rw [hbb]; simp [Op.unary], ?_⟩
         unfold sat
         rw [← hiff]
         cases bb <;> simp
       · cases he
   · cases he
  case neg =>
   simp only [evalOp] at he
   split at he
   · split at he
     · obtain ⟨_, e, hs⟩ := ha 0 _ rfl
       cases e
       exact .of_pure1 (s := Op.unary .neg (a.eval x)) H rfl he fun ap hr => negW_run hr hs
     · cases he
   split at he
   · rename_i k n
     simp only [Option.some.injEq] at he; subst he
     obtain ⟨_, e, hs⟩ := ha 0 _ rfl
     cases e
     obtain ⟨hx, _⟩ := int_sat hs
     have h1 : k.has (negI n) := has_iff.2 ⟨hv _ (by simp [vcRange]), hv _ (by simp [vcRange])⟩
     refine .of_pure H (s := Op.unary .neg (a.eval x)) rfl ⟨.int k (negI n), ?_, sat_int h1⟩
     rw [hx]
     have h2 : k.wrap (-n) = negI n := wrap_of_has h1
     simp [Op.unary, Op.intArith, h2]
   · cases he
  all_goals simp [evalOp] at he
 case convert S D x =>
  simp only [evalOp] at he
  split at he
  · obtain ⟨_, e, hs⟩ := ha 0 _ rfl
    cases e
    split at he
    · exact .of_pure1 H rfl he fun ap hr => convW_run hE hr hs
    split at he
    · rename_i r hr0
      exact .of_pure2 H rfl he fun vc ap hr hvc => by
       cases hr
       exact convA_run hE hr0 (hvc ▸ hv) hs
    · exact .of_pure1 H rfl he fun ap hr => bstrA_run hE hr H.hs hs
  · cases he
 case makeFunc f first caps =>
  cases f <;> simp only [evalOp] at he <;> first | (cases he; done) | skip
  split at he
  · rename_i hf
    simp only [Option.some.injEq] at he; subst he
    have hf0 : first = #[] := Array.eq_empty_of_size_eq_zero hf
    subst hf0
    refine .pure H rfl ?_
    unfold sat
    refine ⟨caps.toList.map a.eval, func_caps _ _, satT_listA args _ (by simpa [opnds] using hl) fun i X hX => ?_⟩
    obtain ⟨x, hx, hs⟩ := ha i X hX
    exact ⟨_, by rw [List.getElem?_map]; simp only [opnds] at hx; rw [hx]; rfl, hs⟩
  · cases he
 case makeMap T r =>
  cases r with
  | none =>
   simp only [evalOp] at he
   split at he
   · simp only [Option.some.injEq] at he; subst he
     exact .of_res rfl (makeMap_run H hn _ _ (fun r h => by cases h))
   · cases he
  | some r =>
   simp only [evalOp] at he
   split at he
   · rename_i ht
     simp only [Option.some.injEq] at he; subst he
     obtain ⟨_, e, hs⟩ := ha 0 _ rfl
     cases e
     obtain ⟨x, y, hu, _, _⟩ := und_mp (Env.ty_ok hE ht).1
     exact .of_res rfl (makeMap_run H hn _ _ (fun r' h => by cases h; exact ⟨⟨x, y, hu⟩, _, _, (int_sat hs).1⟩))
   · cases he
 case makeSlice T l c =>
  simp only [evalOp] at he
  split at he
  · obtain ⟨_, e, hs⟩ := ha 0 _ rfl
    cases e
    obtain ⟨_, e, hs1⟩ := ha 1 _ rfl
    cases e
    exact .of_res rfl (makeSliceA_run hE H hn he hv hs hs1)
  · cases he
 case slice T x l h m =>
  simp only [evalOp] at he
  split at he
  · obtain ⟨_, e, hs⟩ := ha 0 _ rfl
    cases e
    exact .of_res rfl (partW_run hE H hn he hv hs bnd_none bnd_none bnd_none (fun h => (h rfl).elim))
  · obtain ⟨_, e, hs⟩ := ha 0 _ rfl
    cases e
    obtain ⟨_, e, hs1⟩ := ha 1 _ rfl
    cases e
    exact .of_res rfl (partW_run hE H hn he hv hs (bnd_some hs1) bnd_none bnd_none (fun h => (h rfl).elim))
  · obtain ⟨_, e, hs⟩ := ha 0 _ rfl
    cases e
    obtain ⟨_, e, hs1⟩ := ha 1 _ rfl
    cases e
    exact .of_res rfl (partW_run hE H hn he hv hs bnd_none (bnd_some hs1) bnd_none (fun h => (h rfl).elim))
  · obtain ⟨_, e, hs⟩ := ha 0 _ rfl
    cases e
    obtain ⟨_, e, hs1⟩ := ha 1 _ rfl
    cases e
    obtain ⟨_, e, hs2⟩ := ha 2 _ rfl
    cases e
    exact .of_res rfl (partW_run hE H hn he hv hs (bnd_some hs1) (bnd_some hs2) bnd_none (fun h => (h rfl).elim))
  · obtain ⟨_, e, hs⟩ := ha 0 _ rfl
    cases e
    obtain ⟨_, e, hs1⟩ := ha 1 _ rfl
    cases e
    obtain ⟨_, e, hs2⟩ := ha 2 _ rfl
    cases e
    obtain ⟨_, e, hs3⟩ := ha 3 _ rfl
    cases e
    exact .of_res rfl (partW_run hE H hn he hv hs (bnd_some hs1) (bnd_some hs2) (bnd_some hs3) (fun _ => by simp))
  · obtain ⟨_, e, hs⟩ := ha 0 _ rfl
    cases e
    obtain ⟨_, e, hs2⟩ := ha 1 _ rfl
    cases e
    obtain ⟨_, e, hs3⟩ := ha 2 _ rfl
    cases e
    exact .of_res rfl (partW_run hE H hn he hv hs bnd_none (bnd_some hs2) (bnd_some hs3) (fun _ => by simp))
  · cases he
 case fieldAddr T x f =>
  simp only [evalOp] at he
  split at he
  · obtain ⟨_, e, hs⟩ := ha 0 _ rfl
    cases e
    exact .of_pure1 H rfl he fun ap hr => fldAddrA_run hE hr hs
  · cases he
 case field T x f =>
  simp only [evalOp] at he
  split at he
  · obtain ⟨_, e, hs⟩ := ha 0 _ rfl
    cases e
    exact .of_pure1 H rfl he fun ap hr => fldA_run hE hr hs
  · cases he
 case indexAddr T x y =>
  simp only [evalOp] at he
  split at he
  · obtain ⟨_, e, hs⟩ := ha 0 _ rfl
    cases e
    obtain ⟨_, e, hs1⟩ := ha 1 _ rfl
    cases e
    exact .of_pure2 H rfl he fun vc ap hr hvc => idxAddrA_run hE hr (hvc ▸ hv) H.hs hs hs1
  · cases he
 case index T x y =>
  simp only [evalOp] at he
  split at he
  · obtain ⟨_, e, hs⟩ := ha 0 _ rfl
    cases e
    obtain ⟨_, e, hs1⟩ := ha 1 _ rfl
    cases e
    exact .of_pure2 H rfl he fun vc ap hr hvc => idxA_run hE hr (hvc ▸ hv) hs hs1
  · cases he
 case lookup T x y ok =>
  simp only [evalOp] at he
  split at he
  · obtain ⟨_, e, hs⟩ := ha 0 _ rfl
    cases e
    obtain ⟨_, e, hs1⟩ := ha 1 _ rfl
    cases e
    exact .of_pure1 H rfl he fun ap hr => lookA_run hE hr H.hs hs hs1
  · cases he
 case mapUpdate T x y z =>
  simp only [evalOp] at he
  split at he
  · split at he
    · rename_i hr
      simp only [Option.some.injEq] at he; subst he
      obtain ⟨_, e, hs⟩ := ha 0 _ rfl
      cases e
      obtain ⟨_, e, hs1⟩ := ha 1 _ rfl
      cases e
      obtain ⟨_, e, hs2⟩ := ha 2 _ rfl
      cases e
      exact .of_unit rfl (mapUpdA_run hE hr H hs hs1 hs2)
    · cases he
  · cases he
 case insert T x y z =>
  simp only [evalOp] at he
  split at he
  · split at he
    · rename_i hr
      simp only [Option.some.injEq] at he; subst he
      obtain ⟨_, e, hs⟩ := ha 0 _ rfl
      cases e
      obtain ⟨_, e, hs1⟩ := ha 1 _ rfl
      cases e
      obtain ⟨_, e, hs2⟩ := ha 2 _ rfl
      cases e
      exact .of_unit rfl (mapUpdA_run hE hr H hs hs1 hs2)
    · cases he
  · cases he
 case extract x i =>
  simp only [evalOp] at he
  split at he
  · obtain ⟨_, e, hs⟩ := ha 0 _ rfl
    cases e
    refine .of_pure1 H rfl he fun ap hr => ?_
    unfold sat at hs
    obtain ⟨l, hx, hs⟩ := hs
    obtain ⟨v, h1, h2⟩ := satT_nth hr hs
    exact ⟨v, by rw [hx]; simp [Instr.extract, h1], h2⟩
  · split at he
    · simp only [Option.some.injEq] at he; subst he
      obtain ⟨_, e, hs⟩ := ha 0 _ rfl
      cases e
      rename_i p _
      refine .of_pure1 (r := some (.dec p)) H rfl rfl fun ap hr => ?_
      cases hr
      unfold sat at hs
      by_cases hp' : p
      · obtain ⟨x1, x2, hx⟩ := hs.1 hp'
        exact ⟨.bool true, by rw [hx]; simp [Instr.extract], by unfold sat; exact ⟨fun _ => rfl, fun hn => (hn hp').elim⟩⟩
      · have hx := hs.2 hp'
        exact ⟨.bool false, by rw [hx]; simp [Instr.extract], by unfold sat; exact ⟨fun h => (hp' h).elim, fun _ => rfl⟩⟩
    · cases he
  · cases he
 case range T x =>
  simp only [evalOp] at he
  split at he
  · obtain ⟨_, e, hs⟩ := ha 0 _ rfl
    cases e
    exact .of_res rfl (rangeA_run hE he H hn hs)
  · cases he
 case entry x =>
  simp only [evalOp] at he
  split at he
  · obtain ⟨_, e, hs⟩ := ha 0 _ rfl
    cases e
    exact .of_pure2 H rfl he fun vc ap hr hvv => entryA_run hr H hs (by rw [← hvv]; exact hv)
  · cases he
 case call c =>
  obtain ⟨callee, cargs, cats⟩ := c
  cases callee
  case builtin b =>
   have hargs1 : ∀ X, args = [X] → ∃ x, cargs = #[x] ∧ sat X β G (a.eval x) := by
    intro X e
    subst e
    obtain ⟨x, hx, hs⟩ := ha 0 _ rfl
    simp only [opnds] at hx hl
    match hc : cargs.toList, hl with
    | [y], _ =>
     rw [hc] at hx; cases hx
     exact ⟨x, by rw [← Array.toArray_toList (xs := cargs), hc], hs⟩
   have hargs2 : ∀ X Y, args = [X, Y] → ∃ x y, cargs = #[x, y] ∧ sat X β G (a.eval x) ∧ sat Y β G (a.eval y) := by
    intro X Y e
    subst e
    obtain ⟨x, hx, hs⟩ := ha 0 _ rfl
    obtain ⟨y, hy, hs1⟩ := ha 1 _ rfl
    simp only [opnds] at hx hy hl
    match hc : cargs.toList, hl with
    | [x', y'], _ =>
     rw [hc] at hx hy; cases hx; cases hy
     exact ⟨x, y, by rw [← Array.toArray_toList (xs := cargs), hc], hs, hs1⟩
   cases b <;> simp only [evalOp] at he <;> first | (cases he; done) | skip
   case append =>
    split at he
    · rename_i a0 a1
      obtain ⟨x, y, rfl, hs, hs1⟩ := hargs2 _ _ rfl
      exact .of_res (s := Builtin.append_ cats type #[a.eval x, a.eval y]) (by simp [execOp, resolve, invoke, builtin]) (appendW_run hE a0 a1 H hn he hv hs hs1)
    · cases he
   case delete =>
    split at he
    · rename_i a0
      obtain ⟨x, y, rfl, hs, hs1⟩ := hargs2 _ _ rfl
      split at he
      · rename_i h ob hr
        simp only [Option.some.injEq] at he; subst he
        obtain ⟨G', h1, h2, h3⟩ := mapDelA_run hE hr H hs hs1 cats a0 type
        exact .of_res (s := Builtin.delete_ cats type #[a.eval x, a.eval y]) (by simp [execOp, resolve, invoke, builtin]) ⟨_, β, G', h1, h2, Asg.le_refl β, h3, by unfold sat; trivial⟩
      · cases he
    · cases he
   case cap =>
    split at he
    · rename_i a0
      obtain ⟨x, rfl, hs⟩ := hargs1 _ rfl
      exact .of_pure1 (s := Builtin.cap_ cats type #[a.eval x]) H (by simp [execOp, resolve, invoke, builtin]) he fun ap hr => capA_run hE a0 hr hs
    · cases he
   case len =>
    split at he
    · rename_i a0
      obtain ⟨x, rfl, hs⟩ := hargs1 _ rfl
      exact .of_pure2 (s := Builtin.len_ cats type #[a.eval x]) H (by simp [execOp, resolve, invoke, builtin]) he fun vc ap hr hvc => lenOfA_run hE a0 hr (hvc ▸ hv) H.hs hs
    · cases he
   case max =>
    split at he
    · rename_i k n k' m
      split at he
      · rename_i hk
        have hk := of_decide_eq_true hk; subst hk
        simp only [Option.some.injEq] at he; subst he
        obtain ⟨x, y, rfl, hs, hs1⟩ := hargs2 _ _ rfl
        obtain ⟨h1, h2⟩ := int_sat hs
        obtain ⟨h3, h4⟩ := int_sat hs1
        refine .of_pure H (s := Builtin.max_ cats type #[a.eval x, a.eval y]) (by simp [execOp, resolve, invoke, builtin]) ⟨.int k (maxI n m), ?_, sat_int ?_⟩
        · rw [h1, h3]
          simp only [Builtin.max_, List.foldlM, Builtin.max2, maxI]
          by_cases hnm : @LT.lt Int _ n m
          · have : m > n := hnm
            have e : max n m = m := Int.max_eq_right (by omega)
            simp [this, e]
          · have : ¬ m > n := hnm
            have e : max n m = n := Int.max_eq_left (by omega)
            simp [this, e]
        · unfold maxI
          rcases Int.le_total n m with hnm | hnm
          · rw [Int.max_eq_right hnm]; exact h4
          · rw [Int.max_eq_left hnm]; exact h2
      · cases he
    · cases he
   case min =>
    split at he
    · rename_i k n k' m k'' q
      split at he
      · rename_i hk hk'
        have hk := of_decide_eq_true hk; subst hk
        have hk' := of_decide_eq_true hk'; subst hk'
        simp only [Option.some.injEq] at he; subst he
        obtain ⟨x, hx, hs⟩ := ha 0 _ rfl
        obtain ⟨y, hy, hs1⟩ := ha 1 _ rfl
        obtain ⟨z, hz, hs2⟩ := ha 2 _ rfl
        have hca : cargs = #[x, y, z] := by
         simp only [opnds] at hx hy hz hl
         match hc : cargs.toList, hl with
         | [x', y', z'], _ =>
          rw [hc] at hx hy hz; cases hx; cases hy; cases hz
          rw [← Array.toArray_toList (xs := cargs), hc]
        subst hca
        obtain ⟨h1, h2⟩ := int_sat hs
        obtain ⟨h3, h4⟩ := int_sat hs1
        obtain ⟨h5, h6⟩ := int_sat hs2
        have e2 : ∀ (a b : Int) (w : World), (Builtin.min2 (.int k a) (.int k b)).run P w = .ok (.int k (minI a b)) w := fun a b w => by
         simp only [Builtin.min2, minI]
         by_cases hnm : @LT.lt Int _ b a
         · have e : min a b = b := Int.min_eq_right (by omega)
           simp [hnm, e]
         · have e : min a b = a := Int.min_eq_left (by omega)
           simp [hnm, e]
        have hmin : ∀ a b : Int, k.has a → k.has b → k.has (minI a b) := fun a b ha hb => by
         unfold minI
         rcases Int.le_total a b with hnm | hnm
         · rw [Int.min_eq_left hnm]; exact ha
         · rw [Int.min_eq_right hnm]; exact hb
        refine .of_pure H (s := Builtin.min_ cats type #[a.eval x, a.eval y, a.eval z]) (by simp [execOp, resolve, invoke, builtin]) ⟨.int k (minI (minI n m) q), ?_, sat_int (hmin _ _ (hmin _ _ h2 h4) h6)⟩
        rw [h1, h3, h5]
        simp only [Builtin.min_, List.foldlM, Sem.run_bind, e2, Result.andThen_ok, Sem.run_pure]
      · cases he
    · rename_i k n k' m
      split at he
      · rename_i hk
        have hk := of_decide_eq_true hk; subst hk
        simp only [Option.some.injEq] at he; subst he
        obtain ⟨x, y, rfl, hs, hs1⟩ := hargs2 _ _ rfl
        obtain ⟨h1, h2⟩ := int_sat hs
        obtain ⟨h3, h4⟩ := int_sat hs1
        refine .of_pure H (s := Builtin.min_ cats type #[a.eval x, a.eval y]) (by simp [execOp, resolve, invoke, builtin]) ⟨.int k (minI n m), ?_, sat_int ?_⟩
        · rw [h1, h3]
          simp only [Builtin.min_, List.foldlM, Builtin.min2, minI]
          by_cases hnm : @LT.lt Int _ m n
          · have e : min n m = m := Int.min_eq_right (by omega)
            simp [hnm, e]
          · have e : min n m = n := Int.min_eq_left (by omega)
            simp [hnm, e]
        · unfold minI
          rcases Int.le_total n m with hnm | hnm
          · rw [Int.min_eq_left hnm]; exact h2
          · rw [Int.min_eq_right hnm]; exact h4
      · cases he
    · cases he
  all_goals simp [evalOp] at he
 all_goals simp [evalOp] at he
end Go.Gv

/- The frame rule of own memory: what happens on a part of the heap leaves the rest alone. -/
namespace Go.Gv
open Go
theorem memN_iff {l : List Nat} {n : Nat} : memN l n = true ↔ n ∈ l := by
 induction l with
 | nil => simp [memN]
 | cons a r ih =>
  simp only [memN]
  split
  · rename_i h; have := Nat.eq_of_beq_eq_true h; simp [this]
  · rename_i h
    have hne : ¬ n = a := fun e => by subst e; simp at h
    rw [ih]; simp [hne]
def keysH (hw : List (Nat × HObj)) : List Nat := hw.map (·.1)
theorem hset_not {hp : Nat → HObj} {hw : List (Nat × HObj)} {h : Nat} (hk : h ∉ keysH hw) : hset hp hw h = hp h := by
 induction hw with
 | nil => rfl
 | cons e r ih =>
  obtain ⟨k, o⟩ := e
  simp only [keysH, List.map_cons, List.mem_cons, not_or] at hk
  simp only [hset]
  rw [if_neg hk.1]
  exact ih hk.2
theorem hset_mem {hp hp' : Nat → HObj} {hw : List (Nat × HObj)} {h : Nat} (hk : h ∈ keysH hw) : hset hp hw h = hset hp' hw h := by
 induction hw with
 | nil => simp [keysH] at hk
 | cons e r ih =>
  obtain ⟨k, o⟩ := e
  simp only [keysH, List.map_cons, List.mem_cons] at hk
  simp only [hset]
  by_cases hh : h = k
  · rw [if_pos hh, if_pos hh]
  · rw [if_neg hh, if_neg hh]
    exact ih (hk.resolve_left hh)
def resH (hp : Nat → HObj) (ns : List Nat) : Nat → HObj := fun h => match memN ns h with
 | true => hp h
 | false => .none
def resB (β : Asg) (ns : List Nat) : Asg := fun h => match memN ns h with
 | true => β h
 | false => none
theorem resH_in {hp : Nat → HObj} {ns : List Nat} {h : Nat} (hh : h ∈ ns) : resH hp ns h = hp h := by
 unfold resH; rw [memN_iff.2 hh]
theorem resH_out {hp : Nat → HObj} {ns : List Nat} {h : Nat} (hh : h ∉ ns) : resH hp ns h = .none := by
 unfold resH
 split
 · rename_i e; exact (hh (memN_iff.1 e)).elim
 · rfl
theorem resB_in {β : Asg} {ns : List Nat} {h : Nat} (hh : h ∈ ns) : resB β ns h = β h := by
 unfold resB; rw [memN_iff.2 hh]
theorem resB_out {β : Asg} {ns : List Nat} {h : Nat} (hh : h ∉ ns) : resB β ns h = none := by
 unfold resB
 split
 · rename_i e; exact (hh (memN_iff.1 e)).elim
 · rfl
theorem resB_le (β : Asg) (ns : List Nat) : (resB β ns).le β := fun h v e => by
 by_cases hh : h ∈ ns
 · rwa [resB_in hh] at e
 · rw [resB_out hh] at e; cases e
theorem resH_congr {hp hp' : Nat → HObj} {ns : List Nat} (h : ∀ n ∈ ns, hp' n = hp n) : resH hp' ns = resH hp ns := by
 funext n
 by_cases hn : n ∈ ns
 · rw [resH_in hn, resH_in hn, h n hn]
 · rw [resH_out hn, resH_out hn]
def resC (C : Ctx) (hp : Nat → HObj) (β : Asg) (G : GW) (ns : List Nat) : Ctx :=
 { G0 := G, F0 := fun b o => ∃ h v, h ∈ ns ∧ β h = some v ∧ fpc (hp h) v b o, Fo0 := fun b => ∃ h v, h ∈ ns ∧ β h = some v ∧ fpo (hp h) v b, glob := C.glob, N := C.N }
theorem satH_le {o : HObj} {v : Value} {β β' : Asg} {G : GW} (h : satH o v β G) (hb : β.le β') : satH o v β' G := by
 cases o with
 | box cs => obtain ⟨b, l, e, h1, h2⟩ := h; exact ⟨b, l, e, satL.mono cs h1 hb G.le_refl, h2⟩
 | _ => exact h
theorem HInv.restrict {C : Ctx} {hp : Nat → HObj} {β : Asg} {G : GW} (H : HInv C hp β G) (ns : List Nat) (hcl : ∀ h ∈ ns, ∀ v, β h = some v → satH (hp h) v β G → satH (hp h) v (resB β ns) G) : HInv (resC C hp β G ns) (resH hp ns) (resB β ns) G := {
 heap := {
  no := fun h e => by
   by_cases hh : h ∈ ns
   · rw [resB_in hh]; rw [resH_in hh] at e; exact H.heap.no h e
   · exact resB_out hh
  sat := fun h e => by
   by_cases hh : h ∈ ns
   · rw [resH_in hh] at e ⊢
     rw [resB_in hh]
     obtain ⟨v, hv, hs⟩ := H.heap.sat h e
     exact ⟨v, hv, hcl h hh v hv hs⟩
   · exact (e (resH_out hh)).elim
  im := fun h v hv b o hf => by
   by_cases hh : h ∈ ns
   · rw [resB_in hh] at hv; rw [resH_in hh] at hf; exact H.heap.im h v hv b o hf
   · rw [resB_out hh] at hv; cases hv
  imo := fun h v hv b hf => by
   by_cases hh : h ∈ ns
   · rw [resB_in hh] at hv; rw [resH_in hh] at hf; exact H.heap.imo h v hv b hf
   · rw [resB_out hh] at hv; cases hv
  dis := fun h h' v v' hne hv hv' b o hf hf' => by
   by_cases hh : h ∈ ns
   · by_cases hh' : h' ∈ ns
     · rw [resB_in hh] at hv; rw [resH_in hh] at hf; rw [resB_in hh'] at hv'; rw [resH_in hh'] at hf'
       exact H.heap.dis h h' v v' hne hv hv' b o hf hf'
     · rw [resB_out hh'] at hv'; cases hv'
   · rw [resB_out hh] at hv; cases hv
  diso := fun h h' v v' hne hv hv' b hf hf' => by
   by_cases hh : h ∈ ns
   · by_cases hh' : h' ∈ ns
     · rw [resB_in hh] at hv; rw [resH_in hh] at hf; rw [resB_in hh'] at hv'; rw [resH_in hh'] at hf'
       exact H.heap.diso h h' v v' hne hv hv' b hf hf'
     · rw [resB_out hh'] at hv'; cases hv'
   · rw [resB_out hh] at hv; cases hv
  old := H.heap.old
  oldo := H.heap.oldo }
 step := Step.refl _ _ _
 own := fun h v hv b o hf => by
  by_cases hh : h ∈ ns
  · rw [resB_in hh] at hv; rw [resH_in hh] at hf; exact .inl ⟨h, v, hh, hv, hf⟩
  · rw [resB_out hh] at hv; cases hv
 owno := fun h v hv b hf => by
  by_cases hh : h ∈ ns
  · rw [resB_in hh] at hv; rw [resH_in hh] at hf; exact .inl ⟨h, v, hh, hv, hf⟩
  · rw [resB_out hh] at hv; cases hv
 glob := H.glob }
theorem HInv.frame {C : Ctx} {hp : Nat → HObj} {β : Asg} {G : GW} (H : HInv C hp β G) {ns : List Nat} {hp1 : Nat → HObj} {ks : List Nat} {β1 : Asg} {G1 : GW} (H1 : HInv (resC C hp β G ns) hp1 β1 G1) (hle : (resB β ns).le β1)
    (hp2 : Nat → HObj) (hk : ∀ h, h ∈ ns ∨ h ∈ ks → hp2 h = hp1 h) (hk2 : ∀ h, ¬ (h ∈ ns ∨ h ∈ ks) → hp2 h = hp h ∧ hp1 h = .none) (hfresh : ∀ h ∈ ks, h ∉ ns → hp h = .none) :
    ∃ β2, HInv C hp2 β2 G1 ∧ β.le β2 ∧ β1.le β2 := by
 let β2 : Asg := fun h => match β1 h with
  | some v => some v
  | none => β h
 have hb1 : β1.le β2 := fun h v e => by show (match β1 h with | some v => some v | none => β h) = _; rw [e]
 have hK : ∀ h, h ∈ ns ∨ h ∈ ks → β2 h = β1 h := fun h hh => by
  show (match β1 h with | some v => some v | none => β h) = _
  split
  · rename_i e; exact e.symm
  · rename_i e
    rw [e]
    by_cases hn : h ∈ ns
    · cases hb : β h with
      | none => rfl
      | some v => have := hle h v (by rw [resB_in hn]; exact hb); rw [e] at this; cases this
    · exact H.heap.no h (hfresh h (hh.resolve_left hn) hn)
 have hNK : ∀ h, ¬ (h ∈ ns ∨ h ∈ ks) → β2 h = β h := fun h hh => by
  show (match β1 h with | some v => some v | none => β h) = _
  rw [H1.heap.no h (hk2 h hh).2]
 have hb2 : β.le β2 := fun h v e => by
  by_cases hh : h ∈ ns ∨ h ∈ ks
  · rw [hK h hh]
    by_cases hn : h ∈ ns
    · exact hle h v (by rw [resB_in hn]; exact e)
    · rw [H.heap.no h (hfresh h (hh.resolve_left hn) hn)] at e; cases e
  · rw [hNK h hh]; exact e
 have hF0 : ∀ b o, (resC C hp β G ns).F0 b o → ∃ h v, (h ∈ ns ∨ h ∈ ks) ∧ β h = some v ∧ fpc (hp h) v b o := fun b o ⟨h, v, hn, hv, hf⟩ => ⟨h, v, .inl hn, hv, hf⟩
 have hFo0 : ∀ b, (resC C hp β G ns).Fo0 b → ∃ h v, (h ∈ ns ∨ h ∈ ks) ∧ β h = some v ∧ fpo (hp h) v b := fun b ⟨h, v, hn, hv, hf⟩ => ⟨h, v, .inl hn, hv, hf⟩
 refine ⟨β2, ⟨H.heap.gen (fun h => h ∈ ns ∨ h ∈ ks) H1.step hb2 (fun h hh => ⟨(hk2 h hh).1, hNK h hh⟩) hF0 hFo0 (fun h hh e => ?_) (fun h hh e => ?_) (fun h v hh hv b o hf => ?_) (fun h v hh hv b hf => ?_) (fun h h' v v' hh hh' hne hv hv' b o hf hf' => ?_) (fun h h' v v' hh hh' hne hv hv' b hf hf' => ?_) H1.heap.old H1.heap.oldo,
  H.step.trans H1.step (fun b o ⟨h, v, hn, hv, hf⟩ => H.own h v hv b o hf) (fun b ⟨h, v, hn, hv, hf⟩ => H.owno h v hv b hf), fun h v hv b o hf => ?_, fun h v hv b hf => ?_, fun g t x hx => ?_⟩, hb2, hb1⟩
 · rw [hK h hh]; rw [hk h hh] at e; exact H1.heap.no h e
 · rw [hK h hh]; rw [hk h hh] at e ⊢
   obtain ⟨v, hv, hs⟩ := H1.heap.sat h e
   exact ⟨v, hv, satH_le hs hb1⟩
 · rw [hK h hh] at hv; rw [hk h hh] at hf
   exact ⟨(H1.own h v hv b o hf).imp (hF0 b o) id, H1.heap.im h v hv b o hf⟩
 · rw [hK h hh] at hv; rw [hk h hh] at hf
   exact ⟨(H1.owno h v hv b hf).imp (hFo0 b) id, H1.heap.imo h v hv b hf⟩
 · rw [hK h hh] at hv; rw [hk h hh] at hf; rw [hK h' hh'] at hv'; rw [hk h' hh'] at hf'
   exact H1.heap.dis h h' v v' hne hv hv' b o hf hf'
 · rw [hK h hh] at hv; rw [hk h hh] at hf; rw [hK h' hh'] at hv'; rw [hk h' hh'] at hf'
   exact H1.heap.diso h h' v v' hne hv hv' b hf hf'
 · by_cases hh : h ∈ ns ∨ h ∈ ks
   · rw [hK h hh] at hv; rw [hk h hh] at hf
     rcases H1.own h v hv b o hf with ⟨h0, v0, _, hv0, hf0⟩ | hsz
     · exact H.own h0 v0 hv0 b o hf0
     · exact .inr (Nat.le_trans H.step.size hsz)
   · rw [hNK h hh] at hv; rw [(hk2 h hh).1] at hf
     exact H.own h v hv b o hf
 · by_cases hh : h ∈ ns ∨ h ∈ ks
   · rw [hK h hh] at hv; rw [hk h hh] at hf
     rcases H1.owno h v hv b hf with ⟨h0, v0, _, hv0, hf0⟩ | hsz
     · exact H.owno h0 v0 hv0 b hf0
     · exact .inr (Nat.le_trans H.step.size hsz)
   · rw [hNK h hh] at hv; rw [(hk2 h hh).1] at hf
     exact H.owno h v hv b hf
 · exact H1.glob g t x hx
end Go.Gv

/- Shapes of what is handed over, contracts, the run over a region, the generator over a body: definitions. -/
namespace Go.Gv
open Go
inductive Sh where
 | d (t : Ty)
 | row (t : Ty)
 | take (t : Ty)
 | spare (t : Ty)
 | map (k v : Ty)
 | ob (κ : Kind)
 | box (cs : Sh)
 | clos (f : Nat) (cs : Sh)
 | nilp
 | nils
 | nil
 | cons (a b : Sh)
@[reducible] def SDat : Sh → Type
 | .d t => Dat t
 | .row t => List (Dat t)
 | .take t => List (Dat t)
 | .spare t => List (Dat t)
 | .map k v => List (Dat k × Dat v)
 | .ob κ => ObDat κ
 | .box cs => SDat cs
 | .clos _ cs => SDat cs
 | .nilp => Unit
 | .nils => Unit
 | .nil => Unit
 | .cons a b => SDat a × SDat b
def nn : Sh → Nat
 | .d _ => 0
 | .row _ => 1
 | .take _ => 1
 | .spare _ => 1
 | .map _ _ => 1
 | .ob _ => 1
 | .box cs => nn cs + 1
 | .clos _ cs => nn cs
 | .nilp => 0
 | .nils => 0
 | .nil => 0
 | .cons a b => nn a + nn b
def intoA (nm : Nat → Nat) : (s : Sh) → SDat s → Nat → AP
 | .d t, x, _ => .dat t x
 | .row _, _, n => .ref (nm n)
 | .take _, _, n => .ref (nm n)
 | .spare t, xs, n => .sl (nm n) t xs
 | .map _ _, _, n => .ref (nm n)
 | .ob _, _, n => .ref (nm n)
 | .box _, _, n => .loc (nm n) 0
 | .clos f cs, x, n => .clos f (intoA nm cs x n)
 | .nilp, _, _ => .val (.pointer none)
 | .nils, _, _ => .val (.slice none 0 0)
 | .nil, _, _ => .nil
 | .cons a b, x, n => .cons (intoA nm a x.1 n) (intoA nm b x.2 (n + nn a))
def intoH (nm : Nat → Nat) : (s : Sh) → SDat s → Nat → List (Nat × HObj) → List (Nat × HObj)
 | .d _, _, _, r => r
 | .row t, xs, n, r => (nm n, .row t xs) :: r
 | .take t, xs, n, r => (nm n, .row t xs) :: r
 | .spare t, _, n, r => (nm n, .spare t) :: r
 | .map k v, m, n, r => (nm n, .map k v m) :: r
 | .ob κ, x, n, r => (nm n, .ob κ x) :: r
 | .box cs, x, n, r => (nm n, .box (intoA nm cs x (n + 1))) :: intoH nm cs x (n + 1) r
 | .clos _ cs, x, n, r => intoH nm cs x n r
 | .nilp, _, _, r => r
 | .nils, _, _, r => r
 | .nil, _, _, r => r
 | .cons a b, x, n, r => intoH nm a x.1 n (intoH nm b x.2 (n + nn a) r)
structure Fr (α : Type) where
 x : α
 ns : List Nat
 ex : List (Nat × HObj)
 nx : Nat
def castOb (κ κ' : Kind) (x : ObDat κ) : Option (ObDat κ') := if h : κ = κ' then h ▸ some x else none
noncomputable def fromA (hp : Nat → HObj) : (s : Sh) → AP → Nat → Option (Fr (SDat s))
 | .d t, X, nx => match toDat hp t X with
  | some x => some ⟨x, [], [], nx⟩
  | none => none
 | .row t, X, nx => match X with
  | .ref h => match hp h with
   | .row u xs => match castDat (.sl u) (.sl t) xs with
    | some x => some ⟨x, [h], [], nx⟩
    | none => none
   | _ => none
  | .val (.slice none 0 0) => some ⟨[], [nx], [(nx, .row t [])], nx + 1⟩
  | _ => none
 | .take t, X, nx => match X with
  | .ref h => match hp h with
   | .row u xs => match castDat (.sl u) (.sl t) xs with
    | some x => some ⟨x, [h], [], nx⟩
    | none => none
   | _ => none
  | .val (.slice none 0 0) => some ⟨[], [nx], [(nx, .row t [])], nx + 1⟩
  | _ => none
 | .spare t, X, nx => match X with
  | .sl h u xs => match hp h with
   | .spare w => match castDat (.sl u) (.sl t) xs, decide (w = t) with
    | some x, true => some ⟨x, [h], [], nx⟩
    | _, _ => none
   | _ => none
  | .val (.slice none 0 0) => some ⟨[], [nx], [(nx, .spare t)], nx + 1⟩
  | _ => none
 | .map k v, X, nx => match X with
  | .ref h => match hp h with
   | .map a b m => match castDat (.mp a b) (.mp k v) m with
    | some x => some ⟨x, [h], [], nx⟩
    | none => none
   | _ => none
  | _ => none
 | .ob κ, X, nx => match X with
  | .ref h => match hp h with
   | .ob κ' x => match castOb κ' κ x with
    | some x => some ⟨x, [h], [], nx⟩
    | none => none
   | _ => none
  | _ => none
 | .box cs, X, nx => match X with
  | .loc h 0 => match hp h with
   | .box c => match fromA hp cs c nx with
    | some ⟨x, ns, ex, nx'⟩ => some ⟨x, h :: ns, ex, nx'⟩
    | none => none
   | _ => none
  | _ => none
 | .clos f cs, X, nx => match X with
  | .clos g c => match Nat.beq g f with
   | true => match fromA hp cs c nx with
    | some ⟨x, ns, ex, nx'⟩ => some ⟨x, ns, ex, nx'⟩
    | none => none
   | false => none
  | _ => none
 | .nilp, X, nx => match X with
  | .val (.pointer none) => some ⟨(), [], [], nx⟩
  | _ => none
 | .nils, X, nx => match X with
  | .val (.slice none 0 0) => some ⟨(), [], [], nx⟩
  | _ => none
 | .nil, X, nx => match X with
  | .nil => some ⟨(), [], [], nx⟩
  | _ => none
 | .cons a b, X, nx => match X with
  | .cons Y Z => match fromA hp a Y nx with
   | some ⟨x, ns, ex, nx1⟩ => match fromA hp b Z nx1 with
    | some ⟨y, ms, ey, nx2⟩ => some ⟨(x, y), ns ++ ms, ex ++ ey, nx2⟩
    | none => none
   | none => none
  | _ => none
def nodupN : List Nat → Bool
 | [] => true
 | a :: r => match memN r a with
  | true => false
  | false => nodupN r
def backS : Sh → Sh
 | .spare t => .d (.sl t)
 | .take _ => .nilp
 | .clos f cs => .clos f (backS cs)
 | .cons a b => .cons (backS a) (backS b)
 | s => s
def keepS : (s : Sh) → SDat s → SDat (backS s)
 | .d _, x => x
 | .row _, x => x
 | .take _, _ => ()
 | .spare _, x => x
 | .map _ _, x => x
 | .ob _, x => x
 | .box _, x => x
 | .clos _ cs, x => keepS cs x
 | .nilp, x => x
 | .nils, x => x
 | .nil, x => x
 | .cons a b, x => (keepS a x.1, keepS b x.2)
def endAP : (s : Sh) → SDat s → Nat → AP
 | .d t, x, _ => .dat t x
 | .row _, _, n => .ref n
 | .take _, _, _ => .val (.pointer none)
 | .spare t, xs, _ => .dat (.sl t) xs
 | .map _ _, _, n => .ref n
 | .ob _, _, n => .ref n
 | .box _, _, n => .loc n 0
 | .clos f cs, x, n => .clos f (endAP cs x n)
 | .nilp, _, _ => .val (.pointer none)
 | .nils, _, _ => .val (.slice none 0 0)
 | .nil, _, _ => .nil
 | .cons a b, x, n => .cons (endAP a x.1 n) (endAP b x.2 (n + nn a))
def rootsA : Sh → Nat → List (Option Nat)
 | .row _, n => [some n]
 | .map _ _, n => [some n]
 | .ob _, n => [some n]
 | .box cs, n => some n :: List.replicate (nn cs) none
 | .clos _ cs, n => rootsA cs n
 | .cons a b, n => rootsA a n ++ rootsA b (n + nn a)
 | _, _ => []
def nmBack (R : List (Option Nat)) (ns : List Nat) (nx : Nat) (j : Nat) : Nat := match R.getD j none with
 | some k => ns.getD k 0
 | none => nx + j
def deadL : List Nat → List (Nat × HObj) → List (Nat × HObj)
 | [], r => r
 | h :: l, r => (h, .dead) :: deadL l r
structure Alt (ins : Sh) where
 outs : Sh
 res : SDat ins → SDat outs
 upd : SDat ins → SDat (backS ins) := keepS ins
structure Spec where
 ins : Sh
 pre : SDat ins → Prop
 sel : SDat ins → Nat := fun _ => 0
 alts : List (Alt ins)
 ro : Bool := false
 noisy : Bool := false
structure LSpec where
 ins : Sh
 pre : SDat ins → Prop
 X : Type
 ok : SDat ins → X → Prop
 alt : X → Alt ins
 noisy : Bool := false
abbrev Feed := (ts : List Ty) → (Eater → Prop) → List (TDat ts) → Eater → Prop
structure ItSpec where
 ts : List Ty
 caps : Sh
 pre : SDat caps → Prop
 seq : SDat caps → List (TDat ts)
 noisy : Bool := false
structure RS where
 sl : List (Nat × PA)
 hp : List (Nat × HObj)
 nx : Nat
 gd : List (Nat × (Prop × Path)) := []
 vc : List Prop := []
 tr : List (List Nat × List Nat) := []
 wr : List Nat := []
def RS.hpf (rs : RS) : Nat → HObj := fun h => match lookN rs.hp h with
 | some o => o
 | none => .none
def RS.slf (rs : RS) : Nat → PA := fun s => match lookN rs.sl s with
 | some p => p
 | none => ⟨[], .any⟩
def eqB : Bool → Bool → Bool
 | true, true => true
 | false, false => true
 | _, _ => false
def inPath (p : Path) (j : Nat) (w : Bool) : Bool := match p with
 | [] => false
 | (k, v) :: r => match Nat.beq k j, eqB v w with
  | true, true => true
  | _, _ => inPath r j w
def subPath : Path → Path → Bool
 | [], _ => true
 | (j, w) :: r, q => match inPath q j w with
  | true => subPath r q
  | false => false
def inR (k : IntKind) (n : Int) : Bool := decide (lo k ≤ n) && decide (n ≤ hi k)
def constAP : Value → AP
 | .int k n => match inR k n with
  | true => .dat (.int k) n
  | false => .any
 | .bool b => .blit b
 | .string s => match Nat.ble s.data.toList.length 1000000 with
  | true => .dat .str s.data.toList
  | false => .any
 | v => .val v
abbrev Glob := Nat → Option ((t : Ty) × Dat t)
def ptA : AP → AP
 | .dat (.pt t) (some x) => .ptr t x
 | .dat (.pt _) none => .val (.pointer none)
 | X => X
theorem ptA_sat {X : AP} {β : Asg} {G : GW} {v : Value} (h : sat X β G v) : sat (ptA X) β G v := by
 unfold ptA
 split
 · rename_i t x
   unfold sat at h ⊢
   have := h.to_one rfl
   unfold Rep at this
   obtain ⟨b, o, cells, e, h1, h2⟩ := this
   simp only [List.cons.injEq, and_true] at e
   exact ⟨b, o, cells, e, h1, h2⟩
 · rename_i t
   unfold sat at h ⊢
   have := h.to_one rfl
   unfold Rep at this
   simpa using this
 · exact h
theorem ptA_blit {X : AP} {b : Bool} (h : ptA X = .blit b) : X = .blit b := by
 unfold ptA at h
 split at h
 · cases h
 · cases h
 · exact h
theorem ptA_prop {X : AP} {p : Prop} (h : propOf (ptA X) = some p) : propOf X = some p := by
 unfold ptA at h
 split at h
 · cases h
 · cases h
 · exact h
def opA (gl : Glob) (sl : Nat → PA) (path : Path) : Operand → AP
 | .tmp t => match subPath (sl t).path path with
  | true => ptA (sl t).ap
  | false => .any
 | .const v => constAP v
 | .func f => .clos f .nil
 | .global g => match gl g with
  | some ⟨t, x⟩ => .ptr t x
  | none => .any
def impP (gd : List (Nat × (Prop × Path))) : Path → Prop → (Prop → Prop) → Prop
 | [], q, K => K q
 | (j, true) :: r, q, K => match lookN gd j with
  | some (p, _) => impP gd r (p → q) K
  | none => False
 | (j, false) :: r, q, K => match lookN gd j with
  | some (p, _) => impP gd r (¬ p → q) K
  | none => False
def impAll (gd : List (Nat × (Prop × Path))) (path : Path) : List Prop → List Prop → (List Prop → Prop) → Prop
 | [], acc, K => K acc
 | p :: r, acc, K => impP gd path p (fun q => impAll gd path r (q :: acc) K)
def condP (gd : List (Nat × (Prop × Path))) : Path → Prop → (Prop → Prop) → Prop
 | [], q, K => K q
 | (j, true) :: r, q, K => match lookN gd j with
  | some (p, _) => condP gd r (p ∧ q) K
  | none => False
 | (j, false) :: r, q, K => match lookN gd j with
  | some (p, _) => condP gd r (¬ p ∧ q) K
  | none => False
def lits : List Nat := [0, 1, 2, 3, 4, 5, 6, 7, 8, 9, 10, 11, 12, 13, 14, 15, 16, 17, 18, 19, 20, 21, 22, 23, 24, 25, 26, 27, 28, 29, 30, 31, 32, 33, 34, 35, 36, 37, 38, 39, 40, 41, 42, 43, 44, 45, 46, 47, 48, 49, 50, 51, 52, 53, 54, 55, 56, 57, 58, 59, 60, 61, 62, 63, 64, 65, 66, 67, 68, 69, 70, 71, 72, 73, 74, 75, 76, 77, 78, 79, 80, 81, 82, 83, 84, 85, 86, 87, 88, 89, 90, 91, 92, 93, 94, 95, 96, 97, 98, 99, 100, 101, 102, 103, 104, 105, 106, 107, 108, 109, 110, 111, 112, 113, 114, 115, 116, 117, 118, 119, 120, 121, 122, 123, 124, 125, 126, 127, 128, 129, 130, 131, 132, 133, 134, 135, 136, 137, 138, 139, 140, 141, 142, 143, 144, 145, 146, 147, 148, 149, 150, 151, 152, 153, 154, 155, 156, 157, 158, 159, 160, 161, 162, 163, 164, 165, 166, 167, 168, 169, 170, 171, 172, 173, 174, 175, 176, 177, 178, 179, 180, 181, 182, 183, 184, 185, 186, 187, 188, 189, 190, 191, 192, 193, 194, 195, 196, 197, 198, 199, 200, 201, 202, 203, 204, 205, 206, 207, 208, 209, 210, 211, 212, 213, 214, 215, 216, 217, 218, 219, 220, 221, 222, 223, 224, 225, 226, 227, 228, 229, 230, 231, 232, 233, 234, 235, 236, 237, 238, 239, 240, 241, 242, 243, 244, 245, 246, 247, 248, 249, 250, 251, 252, 253, 254, 255]
def nthL {α : Type} : List α → Nat → Option α
 | [], _ => none
 | a :: _, 0 => some a
 | _ :: r, n + 1 => nthL r n
def forceN (n : Nat) (K : Nat → Prop) : Prop := match nthL lits n with
 | some m => match Nat.beq m n with
  | true => K m
  | false => K n
 | none => K n
theorem forceN_eq (n : Nat) (K : Nat → Prop) : forceN n K = K n := by
 unfold forceN
 split
 · split
   · rename_i h; rw [Nat.eq_of_beq_eq_true h]
   · rfl
 · rfl
def appF {α : Type} : List α → List α → (List α → Prop) → Prop
 | [], r, K => K r
 | x :: l, r, K => appF l r (fun t => K (x :: t))
theorem appF_eq {α : Type} : ∀ (l r : List α) (K : List α → Prop), appF l r K = K (l ++ r)
 | [], _, _ => rfl
 | x :: l, r, K => by unfold appF; rw [appF_eq l r]; rfl
def forceA : AP → (AP → Prop) → Prop
 | .any, K => K .any
 | .dat t x, K => K (.dat t x)
 | .blit b, K => K (.blit b)
 | .val v, K => K (.val v)
 | .agg cs, K => forceA cs (fun c => K (.agg c))
 | .nil, K => K .nil
 | .cons h t, K => forceA h (fun h => forceA t (fun t => K (.cons h t)))
 | .tup vs, K => forceA vs (fun c => K (.tup c))
 | .ptr t x, K => K (.ptr t x)
 | .ref h, K => forceN h (fun h => K (.ref h))
 | .loc h o, K => forceN h (fun h => forceN o (fun o => K (.loc h o)))
 | .rloc h i s o, K => forceN h (fun h => K (.rloc h i s o))
 | .dec p, K => K (.dec p)
 | .nxt p, K => K (.nxt p)
 | .sl h t xs, K => forceN h (fun h => K (.sl h t xs))
 | .clos f c, K => forceA c (fun c => K (.clos f c))
theorem forceA_eq : ∀ (X : AP) (K : AP → Prop), forceA X K = K X := by
 intro X
 induction X with
 | agg cs ih => intro K; simp only [forceA, ih]
 | cons h t ih1 ih2 => intro K; simp only [forceA, ih1, ih2]
 | tup cs ih => intro K; simp only [forceA, ih]
 | clos f cs ih => intro K; simp only [forceA, ih]
 | _ => intro K; simp only [forceA, forceN_eq]
def forceL : List AP → (List AP → Prop) → Prop
 | [], K => K []
 | x :: r, K => forceA x (fun x => forceL r (fun r => K (x :: r)))
theorem forceL_eq : ∀ (l : List AP) (K : List AP → Prop), forceL l K = K l := by
 intro l
 induction l with
 | nil => intro K; rfl
 | cons x r ih => intro K; simp only [forceL, forceA_eq, ih]
def forceO : HObj → (HObj → Prop) → Prop
 | .box cs, K => forceA cs (fun c => K (.box c))
 | .none, K => K .none
 | .dead, K => K .dead
 | .spare t, K => K (.spare t)
 | .row t xs, K => K (.row t xs)
 | .frz t xs, K => K (.frz t xs)
 | .map k v m, K => K (.map k v m)
 | .frzb cs, K => forceA cs (fun c => K (.frzb c))
 | .ob κ x, K => K (.ob κ x)
theorem forceO_eq (o : HObj) (K : HObj → Prop) : forceO o K = K o := by
 cases o <;> simp only [forceO, forceA_eq]
def forceH : List (Nat × HObj) → (List (Nat × HObj) → Prop) → Prop
 | [], K => K []
 | (h, o) :: r, K => forceN h (fun h => forceO o (fun o => forceH r (fun r => K ((h, o) :: r))))
theorem forceH_eq : ∀ (l : List (Nat × HObj)) (K : List (Nat × HObj) → Prop), forceH l K = K l := by
 intro l
 induction l with
 | nil => intro K; rfl
 | cons x r ih => intro K; cases x; simp only [forceH, forceO_eq, forceN_eq, ih]
def forceNs : List Nat → (List Nat → Prop) → Prop
 | [], K => K []
 | h :: r, K => forceN h (fun h => forceNs r (fun r => K (h :: r)))
theorem forceNs_eq : ∀ (l : List Nat) (K : List Nat → Prop), forceNs l K = K l := by
 intro l
 induction l with
 | nil => intro K; rfl
 | cons x r ih => intro K; simp only [forceNs, forceN_eq, ih]
def forceS : List (Nat × PA) → (List (Nat × PA) → Prop) → Prop
 | [], K => K []
 | (s, ⟨p, ap⟩) :: r, K => forceN s (fun s => forceA ap (fun ap => forceS r (fun r => K ((s, ⟨p, ap⟩) :: r))))
theorem forceS_eq : ∀ (l : List (Nat × PA)) (K : List (Nat × PA) → Prop), forceS l K = K l := by
 intro l
 induction l with
 | nil => intro K; rfl
 | cons x r ih => intro K; obtain ⟨s, p, ap⟩ := x; simp only [forceS, forceA_eq, forceN_eq, ih]
def forceRS (rs : RS) (K : RS → Prop) : Prop := match rs with
 | ⟨sl, hp, nx, gd, vc, tr, wr⟩ => forceS sl (fun sl => forceH hp (fun hp => forceN nx (fun nx => forceNs wr (fun wr => K ⟨sl, hp, nx, gd, vc, tr, wr⟩))))
theorem forceRS_eq (rs : RS) (K : RS → Prop) : forceRS rs K = K rs := by
 cases rs; simp only [forceRS, forceS_eq, forceH_eq, forceN_eq, forceNs_eq]
def addN (l : List Nat) (n : Nat) : List Nat := match memN l n with
 | true => l
 | false => n :: l
def namesA : AP → List Nat → List Nat
 | .ref h, l => addN l h
 | .loc h _, l => addN l h
 | .rloc h _ _ _, l => addN l h
 | .sl h _ _, l => addN l h
 | .agg c, l => namesA c l
 | .tup c, l => namesA c l
 | .clos _ c, l => namesA c l
 | .cons a b, l => namesA a (namesA b l)
 | _, l => l
def namesL : List AP → List Nat → List Nat
 | [], l => l
 | X :: r, l => namesA X (namesL r l)
def namesO : HObj → List Nat → List Nat
 | .box cs, l => namesA cs l
 | _, l => l
def reach1 (hp : Nat → HObj) : List Nat → List Nat → List Nat
 | [], l => l
 | h :: r, l => reach1 hp r (namesO (hp h) l)
def reachN (hp : Nat → HObj) : Nat → List Nat → List Nat
 | 0, l => l
 | n + 1, l => match l with
  | [] => []
  | h :: r => reachN hp n (reach1 hp (h :: r) (h :: r))
def subN (l : List Nat) : List Nat → Bool
 | [] => true
 | h :: r => match memN l h with
  | true => subN l r
  | false => false
def closedB (hp : Nat → HObj) (ns : List Nat) : List Nat → Bool
 | [] => true
 | h :: r => match subN ns (namesO (hp h) []) with
  | true => closedB hp ns r
  | false => false
def keysOK (ns : List Nat) (nx k : Nat) : List (Nat × HObj) → Bool
 | [] => true
 | (h, _) :: r => match Nat.blt h (nx + k) with
  | true => match memN ns h with
   | true => keysOK ns nx k r
   | false => match Nat.ble nx h with
    | true => keysOK ns nx k r
    | false => false
  | false => false
def closedL : AP → Bool
 | .nil => true
 | .cons (.dat _ _) r => closedL r
 | .cons (.blit _) r => closedL r
 | _ => false
def listOf : AP → List AP
 | .cons a b => a :: listOf b
 | _ => []
def frzArgs (hp : Nat → HObj) : Sh → List AP → List (Nat × HObj)
 | .cons (.d _) s, .ref h :: r => match hp h with
  | .row t xs => (h, .frz t xs) :: frzArgs hp s r
  | _ => frzArgs hp s r
 | .cons (.d (.pt _)) s, .loc h _ :: r => match hp h with
  | .box cs => match closedL cs with
   | true => (h, .frzb cs) :: frzArgs hp s r
   | false => frzArgs hp s r
  | _ => frzArgs hp s r
 | .cons (.ob (.fm _ _)) s, .ref h :: r => match hp h with
  | .map k v m => (h, .ob (.fm k v) m) :: frzArgs hp s r
  | _ => frzArgs hp s r
 | .cons (.clos _ cs) s, .clos _ caps :: r => frzArgs hp cs (listOf caps) ++ frzArgs hp s r
 | .cons _ s, _ :: r => frzArgs hp s r
 | _, _ => []
def listA' : List AP → AP := listA
def resA : (s : Sh) → SDat s → Nat → AP
 | .nil, _, _ => .tup .nil
 | .cons a .nil, x, nx => intoA (fun k => nx + k) a x.1 0
 | s, x, nx => .tup (intoA (fun k => nx + k) s x 0)
@[reducible] def bk (ro : Bool) (s : Sh) : Sh := match ro with
 | true => s
 | false => backS s
def bkEnd (ro : Bool) (s : Sh) (x : SDat s) : AP := match ro with
 | true => intoA (fun k => k) s x 0
 | false => endAP s x 0
def bkUpd (ro : Bool) {s : Sh} (A : Alt s) (x : SDat s) : SDat (bk ro s) := match ro with
 | true => x
 | false => A.upd x
def idR : Nat → Nat → List (Option Nat)
 | 0, _ => []
 | n + 1, k => some k :: idR n (k + 1)
def bkRoots (ro : Bool) (s : Sh) : List (Option Nat) := match ro with
 | true => idR (nn s) 0
 | false => rootsA s 0
def idB (n : Nat) : Nat → List Nat → Bool
 | k, [] => Nat.beq k n
 | k, m :: r => match Nat.beq m k with
  | true => idB n (k + 1) r
  | false => false
def idOK (ro : Bool) (n : Nat) (ms : List Nat) : Bool := match ro with
 | true => idB n 0 ms
 | false => true
def sameP (hp : Nat → HObj) : List (Nat × HObj) → Prop
 | [] => True
 | (h, o) :: r => hp h = o ∧ sameP hp r
structure Way where
 on : Prop
 ap : AP
 hw : List (Nat × HObj)
 k : Nat
def wayA (ro : Bool) {ins : Sh} (A : Alt ins) (on : Prop) (x : SDat ins) (ns : List Nat) (fz : List (Nat × HObj)) (nx nx1 : Nat) : Way :=
 { on := on, ap := resA A.outs (A.res x) (nx1 + nn (bk ro ins)),
   hw := match ro with
    | false => intoH (nmBack (rootsA ins 0) ns nx1) (backS ins) (A.upd x) 0 (intoH (fun k => nx1 + nn (backS ins) + k) A.outs (A.res x) 0 (deadL ns fz))
    | true => intoH (fun k => nx1 + nn ins + k) A.outs (A.res x) 0 fz
   k := (nx1 - nx) + nn (bk ro ins) + nn A.outs }
def waysA (ro : Bool) {ins : Sh} (sel : Nat) (x : SDat ins) (ns : List Nat) (fz : List (Nat × HObj)) (nx nx1 : Nat) : List (Alt ins) → Nat → List Way
 | [], _ => []
 | A :: r, i => wayA ro A (sel = i) x ns fz nx nx1 :: waysA ro sel x ns fz nx nx1 r (i + 1)
def preA (ro : Bool) {ins : Sh} (p : Prop) (x : SDat ins) (hp : Nat → HObj) (ns : List Nat) (nx1 : Nat) : Prop := match ro with
 | false => p
 | true => p ∧ sameP hp (intoH (nmBack (idR (nn ins) 0) ns nx1) ins x 0 [])
noncomputable def callA (S : Spec) (hp : Nat → HObj) (nx : Nat) (args : List AP) : Option (Prop × List Way) :=
 match frzArgs hp S.ins args with
 | fz => match fromA (hset hp fz) S.ins (listA args) nx with
  | some ⟨x, ns, _, nx1⟩ => match nodupN ns with
   | true => some (preA S.ro (S.pre x) x (hset hp fz) ns nx1, waysA S.ro (S.sel x) x ns fz nx nx1 S.alts 0)
   | false => none
  | none => none
def pathOf (gd : List (Nat × (Prop × Path))) (o : Oper) : Option Path := match o.guard with
 | none => some []
 | some (j, w) => match lookN gd j with
  | some (_, p) => some ((j, w) :: p)
  | none => none
def nonEmpty : Path → Bool
 | [] => false
 | _ => true
def idxOf (t : Nat) : List Oper → Nat → Option Nat
 | [], _ => none
 | o :: r, i => match o.dst with
  | some d => match Nat.beq d t with
   | true => some i
   | false => idxOf t r (i + 1)
  | none => idxOf t r (i + 1)
def gdPath (c : Operand) (ops : List Oper) (gd : List (Nat × (Prop × Path))) (w : Bool) (path : Path) : Path :=
 match c with
 | .tmp t => match idxOf t ops 0 with
  | some j => match lookN gd j with
   | some _ => (j, w) :: path
   | none => path
  | none => path
 | _ => path
def pickA (gl : Glob) (ops : List Oper) (sl : Nat → PA) (gd : List (Nat × (Prop × Path))) (path : Path) (c a b : Operand) : Option AP :=
 match opA gl sl path c with
 | .blit true => some (opA gl sl (gdPath c ops gd true path) a)
 | .blit false => some (opA gl sl (gdPath c ops gd false path) b)
 | X => match propOf X, (match c with | .tmp t => idxOf t ops 0 | _ => none) with
  | some p, some j => match lookN gd j with
   | some _ => match opA gl sl ((j, true) :: path) a, opA gl sl ((j, false) :: path) b with
    | .blit true, Y => match propOf Y with | some q => some (.dec (p ∨ q)) | none => none
    | Y, .blit false => match propOf Y with | some q => some (.dec (p ∧ q)) | none => none
    | Y, Z => match propOf Y, propOf Z with
     | some q, some r => some (.dec ((p ∧ q) ∨ (¬ p ∧ r)))
     | _, _ => none
   | none => none
  | _, _ => none
def calleeOf : Op → Option Operand
 | .call { callee := .value f, .. } => some f
 | _ => none
def pickOf : Op → Option (Operand × Operand × Operand)
 | .pick c a b => some (c, a, b)
 | _ => none
def unlistA : AP → Option (List AP)
 | .nil => some []
 | .cons a b => match unlistA b with
  | some l => some (a :: l)
  | none => none
 | _ => none
abbrev Specs := Nat → List Spec
noncomputable def callAny (hp : Nat → HObj) (nx : Nat) (args : List AP) : List Spec → Option (Prop × List Way)
 | [] => none
 | S :: r => match callA S hp nx args with
  | some o => some o
  | none => callAny hp nx args r
structure Cf where
 E : Env
 F : Specs
 gl : Glob
 N : Nat
 keep : List Nat
 spl : List Nat := []
 nz : Bool := false
 eat : Feed := fun _ _ _ _ => False
 L : Nat → List LSpec := fun _ => []
 I : Nat → List ItSpec := fun _ => []
def keysR : List (Nat × HObj) → List Nat → List Nat
 | [], r => r
 | (h, _) :: l, r => h :: keysR l r
def splitW (spl : List Nat) (dst : Option Nat) : List Way → List Way
 | [⟨on, ap, hw, k⟩] => match dst with
  | some d => match memN spl d with
   | true => match propOf ap with
    | some p => [⟨p, .blit true, hw, k⟩, ⟨¬ p, .blit false, hw, k⟩]
    | none => [⟨on, ap, hw, k⟩]
   | false => [⟨on, ap, hw, k⟩]
  | none => [⟨on, ap, hw, k⟩]
 | ws => ws
def calA : AP → AP
 | .dat .fn (some g) => .clos g .nil
 | X => X
noncomputable def stepA (c : Cf) (ops : List Oper) (sl : Nat → PA) (hp : Nat → HObj) (nx : Nat) (gd : List (Nat × (Prop × Path))) (path : Path) (o : Oper) (K : List Prop → List Way → List Nat → Prop) : Prop :=
 match pickOf o.op with
 | some (x, a, b) => match pickA c.gl ops sl gd path x a b with
  | some ap => K [] [⟨True, ap, [], 0⟩] []
  | none => False
 | none => forceL ((opnds o.op).map (opA c.gl sl path)) (fun args =>
  match calleeOf o.op with
  | some f => forceA (calA (opA c.gl sl path f)) (fun fa => match fa with
   | .clos g caps => match unlistA caps with
    | some l => forceNs (reachN hp 4 (namesL (args ++ l) [])) (fun ns => match closedB hp ns ns with
     | true => match callAny (resH hp ns) nx (args ++ l) (c.F g) with
      | some (pre, ws) => K [pre] ws ns
      | none => False
     | false => False)
    | none => False
   | _ => False)
  | none => forceNs (reachN hp 4 (namesL args [])) (fun ns => match closedB hp ns ns with
   | true => match evalOp c.E (resH hp ns) nx (nonEmpty path) o.dst o.op args with
    | some ⟨vc, ap, hw, k⟩ => K vc [⟨True, ap, hw, k⟩] ns
    | none => False
   | false => False))
structure More (p : Prop) : Prop where
 out : p
def nextRS (i : Nat) (dst : Option Nat) (path : Path) (ap : AP) (hw : List (Nat × HObj)) (k : Nat) (ns : List Nat) (vc : List Prop) (K : RS → Prop) : RS → Prop
 | ⟨sl, hp, nx, gd, _, tr, wr⟩ => forceN (nx + k) (fun nx => appF hw hp (fun hp => forceNs (keysR hw []) (fun ks => appF ks wr (fun wr => match dst, propOf ap with
  | some d, some p => K ⟨(d, ⟨path, ap⟩) :: sl, hp, nx, (i, (p, path)) :: gd, vc, (ks, ns) :: tr, wr⟩
  | some d, none => K ⟨(d, ⟨path, ap⟩) :: sl, hp, nx, gd, vc, (ks, ns) :: tr, wr⟩
  | none, _ => K ⟨sl, hp, nx, gd, vc, (ks, ns) :: tr, wr⟩))))
def goWay (i : Nat) (dst : Option Nat) (path : Path) (ns : List Nat) (vc : List Prop) (go : RS → Prop) (rs : RS) : Way → Prop
 | ⟨_, ap, hw, k⟩ => match keysOK ns rs.nx k hw with
  | true => forceA ap (fun ap => forceH hw (fun hw => forceN k (fun k => nextRS i dst path ap hw k ns vc go rs)))
  | false => False
def goSkip (i : Nat) (dst : Option Nat) (path : Path) (ns : List Nat) (vc : List Prop) (go : RS → Prop) (rs : RS) : Prop :=
 nextRS i dst path .any [] 0 ns vc go rs
def goWays (i : Nat) (dst : Option Nat) (path : Path) (ns : List Nat) (vc : List Prop) (go : RS → Prop) (rs : RS) : List Way → Prop
 | [] => True
 | W :: r => (W.on → More (goWay i dst path ns vc go rs W)) ∧ More (goWays i dst path ns vc go rs r)
def allP : List Prop → Prop
 | [] => True
 | [p] => p
 | p :: r => allP r ∧ p
def goAll (gd : List (Nat × (Prop × Path))) (i : Nat) (dst : Option Nat) (path : Path) (ns : List Nat) (vc : List Prop) (go : RS → Prop) (rs : RS) : List Way → Prop
 | [W] => match path, W.hw with
  | _ :: _, _ :: _ => condP gd path True (fun p => (p → More (goWay i dst path ns vc go rs W)) ∧ (¬ p → More (goSkip i dst path ns vc go rs)))
  | _, _ => goWay i dst path ns vc go rs W
 | ws => match path with
  | [] => allP vc ∧ More (goWays i dst path ns [] go rs ws)
  | _ :: _ => condP gd path True (fun p => allP vc ∧ (p → More (goWays i dst path ns [] go rs ws)) ∧ (¬ p → More (goSkip i dst path ns [] go rs)))
def deadH (ops : List Oper) (sl : Nat → PA) : Path → Bool
 | [] => false
 | (j, w) :: r => match ops[j]? with
  | some o => match o.dst with
   | some d => match (sl d).ap with
    | .blit b => match eqB b w with
     | true => deadH ops sl r
     | false => true
    | _ => deadH ops sl r
   | none => deadH ops sl r
  | none => deadH ops sl r
structure Dyn where
 X : Type
 ok : X → Prop
 vc : List Prop
 W : X → Way
 ns : List Nat
noncomputable def argsT (hp : Nat → HObj) : (ts : List Ty) → List AP → Option (TDat ts)
 | [], [] => some ()
 | t :: r, X :: l => match toDat hp t X with
  | some x => match argsT hp r l with
   | some y => some (x, y)
   | none => none
  | none => none
 | _, _ => none
noncomputable def callL (S : LSpec) (hp : Nat → HObj) (nx : Nat) (args : List AP) : Option Dyn :=
 match frzArgs hp S.ins args with
 | fz => match fromA (hset hp fz) S.ins (listA args) nx with
  | some ⟨x, ns, _, nx1⟩ => match nodupN ns with
   | true => some { X := S.X, ok := S.ok x, vc := [S.pre x], W := fun χ => wayA false (S.alt χ) True x ns fz nx nx1, ns := keysR fz ns }
   | false => none
  | none => none
noncomputable def feedA (eat : Feed) (hp : Nat → HObj) (h : Nat) (args : List AP) : Option Dyn := match hp h with
 | .ob (.log ts) (ys, E, D) => match argsT hp ts args with
  | some y => some { X := Bool × Eater, ok := fun x => eat ts D (if x.1 = true then ys.tail else []) x.2, vc := [ys.head? = some y ∧ eat ts D ys E], W := fun x => ⟨True, .dec (x.1 = true), [(h, .ob (.log ts) (if x.1 = true then ys.tail else [], x.2, D))], 0⟩, ns := [h] }
  | none => none
 | _ => none
noncomputable def dynA (c : Cf) (sl : Nat → PA) (hp : Nat → HObj) (nx : Nat) (path : Path) (o : Oper) : Option Dyn := match calleeOf o.op with
 | some f => match opA c.gl sl path f with
  | .clos g caps => match unlistA caps, c.L g with
   | some l, S :: _ => callL S hp nx ((opnds o.op).map (opA c.gl sl path) ++ l)
   | _, _ => none
  | .ref h => feedA c.eat hp h ((opnds o.op).map (opA c.gl sl path))
  | _ => none
 | none => match o.op with
  | .next x false => match opA c.gl sl path x with
   | .ref h => match hp h with
    | .ob (.mit k v) y => some { X := Nat, ok := fun i => y.1 ≠ [] → i < y.1.length, vc := [], W := fun i => ⟨True, .nxt (y.1 ≠ []), [(h, .ob (.mit k v) (y.1.eraseIdx i, y.1.getD i (dflt k, dflt v), y.1 ≠ []))], 0⟩, ns := [h] }
    | _ => none
   | _ => none
  | _ => none
noncomputable def dynB (c : Cf) (y : Bool) (sl : Nat → PA) (hp : Nat → HObj) (nx : Nat) (path : Path) (o : Oper) : Option Dyn := match y with
 | true => dynA c sl hp nx path o
 | false => none
def goDyn (gd : List (Nat × (Prop × Path))) (i : Nat) (dst : Option Nat) (path : Path) (vc : List Prop) (go : RS → Prop) (rs : RS) (D : Dyn) : Prop := match path with
 | [] => allP vc ∧ ∀ x : D.X, D.ok x → More (goWay i dst [] D.ns [] go rs (D.W x))
 | e :: r => condP gd (e :: r) True (fun p => allP vc ∧ (p → More (∀ x : D.X, D.ok x → More (goWay i dst (e :: r) D.ns [] go rs (D.W x)))) ∧ (¬ p → More (goSkip i dst (e :: r) D.ns [] go rs)))
noncomputable def runOps (c : Cf) (y : Bool) (ops : List Oper) : List Oper → Nat → RS → (RS → Prop) → Prop
 | [], _, rs, K => K rs
 | o :: r, i, ⟨sl, hp, nx, gd, vc, tr, wr⟩, K => match pathOf gd o, dstOK o.dst c.N with
  | some path, true => match deadH ops (RS.slf ⟨sl, [], 0, [], [], [], []⟩) path with
   | true => condP gd path True (fun p => ¬ p ∧ More (goSkip i o.dst path [] vc (fun rs => runOps c y ops r (i + 1) rs K) ⟨sl, hp, nx, gd, vc, tr, wr⟩))
   | false => match dynB c y (RS.slf ⟨sl, [], 0, [], [], [], []⟩) (RS.hpf ⟨[], hp, 0, [], [], [], []⟩) nx path o with
    | some D => impAll gd path D.vc vc (fun vc => goDyn gd i o.dst path vc (fun rs => runOps c y ops r (i + 1) rs K) ⟨sl, hp, nx, gd, vc, tr, wr⟩ D)
    | none => stepA c ops (RS.slf ⟨sl, [], 0, [], [], [], []⟩) (RS.hpf ⟨[], hp, 0, [], [], [], []⟩) nx gd path o (fun vc1 ws ns =>
     impAll gd path vc1 vc (fun vc => goAll gd i o.dst path ns vc (fun rs => runOps c y ops r (i + 1) rs K) ⟨sl, hp, nx, gd, vc, tr, wr⟩ (splitW c.spl o.dst ws)))
  | _, _ => False
def cleanF (keep : List Nat) : List Nat → List (Nat × PA) → (List (Nat × PA) → Prop) → Prop
 | _, [], K => K []
 | seen, (s, ⟨p, ap⟩) :: r, K => match memN seen s, memN keep s with
  | false, true => match p with
   | [] => forceA ap (fun ap => cleanF keep (s :: seen) r (fun r => K ((s, ⟨[], ap⟩) :: r)))
   | _ :: _ => cleanF keep (s :: seen) r K
  | _, _ => cleanF keep seen r K
def cleanH : List Nat → List (Nat × HObj) → (List (Nat × HObj) → Prop) → Prop
 | _, [], K => K []
 | seen, (h, o) :: r, K => match memN seen h with
  | false => forceN h (fun h => forceO o (fun o => cleanH (h :: seen) r (fun r => K ((h, o) :: r))))
  | true => cleanH seen r K
def dedupN : List Nat → List Nat → (List Nat → Prop) → Prop
 | acc, [], K => K acc
 | acc, h :: r, K => match memN acc h with
  | true => dedupN acc r K
  | false => forceN h (fun h => dedupN (h :: acc) r K)
def uniqB (d g : Nat) : List Oper → Nat → Bool
 | [], _ => true
 | o :: r, i => match o.dst with
  | some e => match Nat.beq e d, Nat.beq i g with
   | true, false => false
   | _, _ => uniqB d g r (i + 1)
  | none => uniqB d g r (i + 1)
def gdOne (ops : List Oper) (o : Oper) : Bool :=
 (match o.guard with
  | none => true
  | some (g, _) => match ops[g]? with
   | some og => match og.dst with
    | some d => uniqB d g ops 0
    | none => false
   | none => false) &&
 (match o.op with
  | .pick (.tmp t) _ _ => match idxOf t ops 0 with
   | some j => uniqB t j ops 0
   | none => true
  | _ => true)
def gdB (ops : List Oper) : List Oper → Bool
 | [] => true
 | o :: r => match gdOne ops o with
  | true => gdB ops r
  | false => false
def bindsAny (e : Edge) : Bool := match e.ground with
 | .textOnly _ => false
 | .gcOnly _ => false
 | _ => true
def ancE (acc : List Nat) (i : Nat) : List Edge → Nat
 | [] => 0
 | e :: r => match ancE acc i r with
  | m => match bindsAny e, Nat.blt e.on i with
   | true, true => match Nat.testBit m e.on with
    | true => m
    | false => Nat.lor (Nat.lor m (2 ^ e.on)) (acc.getD (i - 1 - e.on) 0)
   | _, _ => m
def ancs : List Oper → Nat → List Nat → List Nat
 | [], _, acc => acc
 | o :: r, i, acc => ancs r (i + 1) (ancE acc i o.after.toList :: acc)
structure RW where
 dst : Option Nat
 rd : List Nat
 ks : List Nat
 ns : List Nat
def tmpOf : Operand → List Nat → List Nat
 | .tmp t, l => t :: l
 | _, l => l
def readsOf (ops : List Oper) (o : Oper) : List Nat :=
 match o.guard with
 | some (g, _) => match ops[g]? with
  | some og => match og.dst with
   | some d => d :: (o.op.operands.toList.foldr tmpOf [])
   | none => o.op.operands.toList.foldr tmpOf []
  | none => o.op.operands.toList.foldr tmpOf []
 | none => o.op.operands.toList.foldr tmpOf []
def hits (l m : List Nat) : Bool := match l with
 | [] => false
 | a :: r => match memN m a with
  | true => true
  | false => hits r m
def confB (a b : RW) : Bool :=
 (match a.dst with
  | some d => memN b.rd d || (match b.dst with | some e => Nat.beq e d | none => false)
  | none => false) || hits a.ks b.ns || hits a.ks b.ks
def ordOne (b : RW) (anc : Nat) : List RW → Nat → Bool
 | [], _ => true
 | a :: r, j => match confB a b || confB b a with
  | true => match Nat.testBit anc j with
   | true => ordOne b anc r (j - 1)
   | false => false
  | false => ordOne b anc r (j - 1)
def ordAll : List RW → List Nat → Nat → Bool
 | b :: r, m :: ms, j => match ordOne b m r (j - 1) with
  | true => ordAll r ms (j - 1)
  | false => false
 | [], _, _ => true
 | _, _, _ => false
def rwsOf (ops : List Oper) : List Oper → List (List Nat × List Nat) → List RW → List RW
 | o :: r, (ks, ns) :: tr, acc => rwsOf ops r tr (⟨o.dst, readsOf ops o, ks, ns⟩ :: acc)
 | _, _, acc => acc
def backB : List Oper → Nat → Bool
 | [], _ => true
 | o :: r, i => match o.after.toList.all (fun e => !bindsAny e || Nat.blt e.on i) with
  | true => backB r (i + 1)
  | false => false
def ordB (ops : List Oper) (tr : List (List Nat × List Nat)) : Bool :=
 match backB ops 0 with
 | true => ordAll (rwsOf ops ops tr.reverse []) (ancs ops 0 []) (ops.length - 1)
 | false => false
def emit (keep : List Nat) (draw : Bool) (ops : List Oper) (rs : RS) (K : RS → Prop) : Prop := match rs with
 | ⟨sl, hp, nx, _, vc, tr, wr⟩ => match (match draw with | true => ordB ops tr | false => true) with
  | true => cleanF keep [] sl (fun sl => cleanH [] hp (fun hp => dedupN [] wr (fun wr => match vc with
   | [] => K ⟨sl, hp, nx, [], [], [], wr⟩
   | vc => allP vc ∧ More (K ⟨sl, hp, nx, [], [], [], wr⟩))))
  | false => False
noncomputable def regA (c : Cf) (ops : List Oper) (draw : Bool) (rs : RS) (K : RS → Prop) : Prop := match gdB ops ops with
 | true => runOps c (!draw) ops ops 0 rs (fun rs' => emit c.keep draw ops rs' K)
 | false => False
inductive Ex where
 | normal
 | exit (id : Nat)
 | ret
def dstsO : List Oper → List Nat → List Nat
 | [], l => l
 | o :: r, l => dstsO r (match o.dst with | some d => d :: l | none => l)
def dsts : Code → List Nat → List Nat
 | .region _ ops _, l => dstsO ops.toList l
 | .seq a b, l => dsts a (dsts b l)
 | .cond _ a b, l => dsts a (dsts b l)
 | .block _ c, l => dsts c l
 | .loop c, l => dsts c l
 | .scope c, l => dsts c l
 | _, l => l
def dropS (ds : List Nat) : List (Nat × PA) → List (Nat × PA)
 | [] => []
 | (s, p) :: r => match memN ds s with
  | true => dropS ds r
  | false => (s, p) :: dropS ds r
@[reducible] def shS : List (Nat × Sh) → Sh
 | [] => .nil
 | (_, s) :: r => .cons s (shS r)
@[reducible] def shB : List (Nat × Sh) → Sh
 | [] => .nil
 | (_, s) :: r => .cons (.box s) (shB r)
def getS (sl : Nat → PA) : List (Nat × Sh) → AP
 | [] => .nil
 | (s, _) :: r => .cons (sl s).ap (getS sl r)
def locB : List (Nat × Sh) → AP
 | [] => .nil
 | (h, _) :: r => .cons (.loc h 0) (locB r)
def rootsB : List (Nat × Sh) → List (Option Nat)
 | [] => []
 | (h, s) :: r => some h :: (List.replicate (nn s) none ++ rootsB r)
def rootsL (S B : List (Nat × Sh)) : List (Option Nat) := List.replicate (nn (shS S)) none ++ rootsB B
def nmL (R : List (Option Nat)) (nx k : Nat) : Nat := match R.getD k none with
 | some h => h
 | none => nx + k
def putS (nm : Nat → Nat) : (l : List (Nat × Sh)) → SDat (shS l) → Nat → List (Nat × PA) → List (Nat × PA)
 | [], _, _, r => r
 | (s, sh) :: l, x, n, r => (s, ⟨[], intoA nm sh x.1 n⟩) :: putS nm l x.2 (n + nn sh) r
def keysS : List (Nat × Sh) → List Nat
 | [] => []
 | (s, _) :: r => s :: keysS r
@[reducible] def shL (S B : List (Nat × Sh)) : Sh := .cons (shS S) (shB B)
noncomputable def loopIn (S B : List (Nat × Sh)) (rs : RS) : Option (Fr (SDat (shL S B))) :=
 match fromA rs.hpf (shL S B) (.cons (getS rs.slf S) (locB B)) rs.nx with
 | some fr => match nodupN fr.ns with
  | true => some fr
  | false => none
 | none => none
def ltN (nx : Nat) : List Nat → List Nat
 | [] => []
 | h :: r => match Nat.blt h nx with
  | true => h :: ltN nx r
  | false => ltN nx r
def loopHead (S B : List (Nat × Sh)) (ds : List Nat) (rs : RS) (ns : List Nat) (x : SDat (shL S B)) : RS :=
 { sl := putS (nmL (rootsL S B) rs.nx) S x.1 0 (dropS ds rs.sl), hp := intoH (nmL (rootsL S B) rs.nx) (shL S B) x 0 (deadL (ltN rs.nx ns) rs.hp), nx := rs.nx + nn (shL S B), wr := [] }
def wrOK (B : List Nat) (nx : Nat) : List Nat → Bool
 | [] => true
 | h :: r => match memN B h, Nat.ble nx h with
  | false, false => false
  | _, _ => wrOK B nx r
def addWr (l : List Nat) : RS → RS
 | ⟨sl, hp, nx, gd, vc, tr, wr⟩ => ⟨sl, hp, nx, gd, vc, tr, wr ++ l⟩
def noRF : Code → Bool
 | .seq a b => match noRF a with
  | true => noRF b
  | false => false
 | .cond _ a b => match noRF a with
  | true => noRF b
  | false => false
 | .block _ b => noRF b
 | .loop b => noRF b
 | .rangeFunc .. => false
 | _ => true
def putT : List Nat → (ts : List Ty) → TDat ts → List (Nat × PA) → List (Nat × PA)
 | s :: l, t :: r, x, k => (s, ⟨[], .dat t x.1⟩) :: putT l r x.2 k
 | _, _, _, k => k
def roundHead (ts : List Ty) (B : List (Nat × Sh)) (ps : List Nat) (rs : RS) (ns : List Nat) (y : TDat ts) (x : SDat (shL [] B)) : RS := match loopHead [] B [] rs ns x with
 | ⟨sl, hp, nx, gd, vc, tr, wr⟩ => ⟨putT ps ts y sl, hp, nx, gd, vc, tr, wr⟩
def withSl (sl : List (Nat × PA)) : RS → RS
 | ⟨_, hp, nx, gd, vc, tr, wr⟩ => ⟨sl, hp, nx, gd, vc, tr, wr⟩
def psOK (N : Nat) : List Nat → List Ty → Bool
 | [], [] => true
 | s :: l, _ :: r => match Nat.blt s N, memN l s with
  | true, false => psOK N l r
  | _, _ => false
 | _, _ => false
noncomputable def rfK (B : List (Nat × Sh)) (rs : RS) (ns : List Nat) (inv : SDat (shB B) → Prop) (K : Ex → RS → Prop) : Ex → RS → Prop
 | .normal, rs' => match loopIn [] B rs', wrOK (keysS B) rs.nx rs'.wr with
  | some ⟨x', ns', _, _⟩, true => match wrOK (keysS B) rs.nx ns' with
   | true => inv x'.2
   | false => False
  | _, _ => False
 | .exit i, rs' => K (.exit i) (addWr (keysS B ++ ns ++ rs.wr) (withSl rs.sl rs'))
 | .ret, rs' => K .ret (addWr (keysS B ++ ns ++ rs.wr) (withSl rs.sl rs'))
def rfA (W : RS → Prop) : Ex → RS → Prop
 | .normal, rs1 => W rs1
 | _, _ => False
noncomputable def wpA (c : Cf) : Code → RS → (Ex → RS → Prop) → Prop
 | .skip, rs, K => K .normal rs
 | .region _ ops draw, rs, K => regA c ops.toList draw rs (K .normal)
 | .seq a b, rs, K => wpA c a rs (fun e rs' => match e with
  | .normal => wpA c b rs' K
  | e => K e rs')
 | .cond x a b, rs, K => match opA c.gl rs.slf [] x with
  | .blit true => wpA c a rs K
  | .blit false => wpA c b rs K
  | X => match propOf X with
   | some p => (p → More (wpA c a rs K)) ∧ (¬ p → More (wpA c b rs K))
   | none => False
 | .block id b, rs, K => wpA c b rs (fun e rs' => match e with
  | .exit i => match Nat.beq i id with
   | true => K .normal rs'
   | false => K (.exit i) rs'
  | e => K e rs')
 | .loop b, rs, K => ∃ (S B : List (Nat × Sh)) (inv : SDat (shL S B) → Prop) (μ : SDat (shL S B) → Nat),
     match loopIn S B rs with
     | some ⟨x0, ns, _, _⟩ => inv x0 ∧ ∀ x, inv x → More (forceRS (loopHead S B (dsts b []) rs ns x) (fun rsH => wpA c b rsH (fun e rs' => match e with
      | .normal => match loopIn S B rs', wrOK (keysS B) rs.nx rs'.wr with
       | some ⟨x', ns', _, _⟩, true => match wrOK (keysS B) rs.nx ns' with
        | true => inv x' ∧ μ x' < μ x
        | false => False
       | _, _ => False
      | e => K e (addWr (keysS B ++ ns ++ rs.wr) rs'))))
     | none => False
 | .rangeFunc g ps asg b, rs, K => match opA c.gl rs.slf [] g with
  | .clos f caps => match unlistA caps, c.I f with
   | some l, I :: _ => match fromA rs.hpf I.caps (listA l) rs.nx, psOK c.N ps.toList I.ts, noRF asg, noRF b with
    | some ⟨z, [], [], _⟩, true, true, true => I.pre z ∧ ∃ (B : List (Nat × Sh)) (inv : List (TDat I.ts) → SDat (shB B) → Prop), match loopIn [] B rs with
     | some ⟨x0, ns, _, _⟩ => inv (I.seq z) x0.2 ∧ (∀ y r x, inv (y :: r) x → More (forceRS (roundHead I.ts B ps.toList rs ns y ((), x)) (fun rsH => wpA c asg rsH (rfA (fun rs1 => wpA c b rs1 (rfK B rs ns (inv r) K)))))) ∧ ∀ x, inv [] x → More (forceRS (loopHead [] B [] rs ns ((), x)) (fun rsE => K .normal (addWr (keysS B ++ ns ++ rs.wr) rsE)))
     | none => False
    | _, _, _, _ => False
   | _, _ => False
  | _ => False
 | .exit id, rs, K => K (.exit id) rs
 | .ret, rs, K => K .ret rs
 | .label _, rs, K => K .normal rs
 | _, _, _ => False
def argsSl (s : Sh) (x : SDat s) : List (Nat × PA) := go (intoA (fun k => k) s x 0) 0
where go : AP → Nat → List (Nat × PA)
 | .cons a r, i => (i, ⟨[], a⟩) :: go r (i + 1)
 | _, _ => []
def endH (hp : Nat → HObj) : Sh → Nat → Option AP
 | .cons (.box _) s, n => match hp n, endH hp s (n + 1) with
  | .box c, some r => some (.cons c r)
  | _, _ => none
 | .cons _ s, n => endH hp s n
 | _, _ => some .nil
end Go.Gv

/- What a function has to show, as a goal: definitions. -/
namespace Go.Gv
open Go
noncomputable def getR (E : Env) (hp : Nat → HObj) (sl : Nat → PA) : List ResultVar → Option (List AP)
 | [] => some []
 | .tmp s :: r => match getR E hp sl r with
  | some l => some ((sl s).ap :: l)
  | none => none
 | .cell s T :: r => match (sl s).ap with
  | .loc h off => match loadA E hp T (.loc h off), getR E hp sl r with
   | some ([], X), some l => some (X :: l)
   | _, _ => none
  | _ => none
noncomputable def retAlt (E : Env) (ro : Bool) {ins : Sh} (q : Prop) (A : Alt ins) (x : SDat ins) (rl : List ResultVar) (rs : RS) : Prop :=
 match getR E rs.hpf rs.slf rl with
 | some l => match frzArgs rs.hpf A.outs l with
  | fz => match fromA (hset rs.hpf fz) A.outs (listA l) rs.nx with
   | some ⟨y, ns, _, nx⟩ => match fromA (hset rs.hpf fz) (bk ro ins) (bkEnd ro ins x) nx with
    | some ⟨z, ms, _, _⟩ => match nodupN (ns ++ ms), idOK ro (nn ins) ms with
     | true, true => q ∧ y = A.res x ∧ z = bkUpd ro A x
     | _, _ => False
    | none => False
   | none => False
 | none => False
noncomputable def retA (E : Env) (S : Spec) (x : SDat S.ins) (rl : List ResultVar) (rs : RS) : Prop :=
 match S.alts with
 | [A] => retAlt E S.ro (S.sel x = 0) A x rl rs
 | As => ∃ (k : Nat) (A : Alt S.ins), As[k]? = some A ∧ retAlt E S.ro (S.sel x = k) A x rl rs
def bodyOf (f : Func) : Code := f.body.getD .skip
noncomputable def fnGoal (c : Cf) (f : Func) (S : Spec) (x : SDat S.ins) : Prop :=
 forceRS { sl := argsSl S.ins x, hp := intoH (fun k => k) S.ins x 0 [], nx := nn S.ins } (fun rs0 => wpA c (bodyOf f) rs0 (fun e rs => match e with
  | .ret => retA c.E S x f.results.toList rs
  | .normal => retA c.E S x f.results.toList rs
  | _ => False))
end Go.Gv
