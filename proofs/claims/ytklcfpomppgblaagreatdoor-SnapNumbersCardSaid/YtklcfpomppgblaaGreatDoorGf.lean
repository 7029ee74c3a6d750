/- A verified generator of conditions over the code of the model. Part 6. -/
import Derived.Test.YtklcfpomppgblaaGreatDoorGe
import Derived.RangeFuncOwn
set_option linter.all false

/- The check of a region's order means what it should. -/
namespace Go.Gv
open Go
theorem keysR_eq : ∀ (hw : List (Nat × HObj)) (r : List Nat), keysR hw r = keysH hw ++ r
 | [], r => rfl
 | (h, o) :: l, r => by simp only [keysR, keysH, List.map_cons, List.cons_append, keysR_eq l r]
theorem walk_tr {c : Cf} {L : List Oper} {r : List Oper} {i : Nat} {rs : RS} {es : List TE} {rsE : RS} (h : Walk c L r i rs es rsE) : rsE.tr = (es.map (fun e => (keysH e.hw, e.ns))).reverse ++ rs.tr ∧ rsE.wr = (es.reverse.flatMap (fun e => keysH e.hw)) ++ rs.wr := by
 induction h with
 | done i rs => exact ⟨rfl, rfl⟩
 | step o r i rs e vc es rsE hp hd hw hrest ih =>
  obtain ⟨h1, h2⟩ := ih
  rw [h1, h2]
  unfold nextP
  dsimp only
  rw [keysR_eq, keysR_eq, List.append_nil]
  constructor
  · simp
  · simp
theorem hits_spec {l m : List Nat} : hits l m = true ↔ ∃ h ∈ l, h ∈ m := by
 induction l with
 | nil => simp [hits]
 | cons a r ih =>
  unfold hits
  split
  · rename_i h
    have := memN_iff.1 h
    simp [this]
  · rename_i h
    have : a ∉ m := fun hm => by rw [memN_iff.2 hm] at h; cases h
    rw [ih]; simp [this]
theorem ordOne_spec {b : RW} {anc : Nat} : ∀ {l : List RW} {j : Nat}, ordOne b anc l j = true → ∀ (q : Nat) (a : RW), l[q]? = some a → (confB a b || confB b a) = true → q ≤ j → Nat.testBit anc (j - q) = true
 | [], _, _, q, a, h, _, _ => by simp at h
 | x :: r, j, h, q, a, hq, hc, hle => by
  unfold ordOne at h
  cases q with
  | zero =>
   simp at hq; subst hq
   split at h
   · split at h
     · rename_i ht; exact ht
     · cases h
   · rename_i hn; rw [hc] at hn; cases hn
  | succ q =>
   have hr : ordOne b anc r (j - 1) = true := by
    split at h
    · split at h
      · exact h
      · cases h
    · exact h
   have := ordOne_spec hr q a (by simpa using hq) hc (by omega)
   rwa [show j - 1 - q = j - (q + 1) by omega] at this
theorem ordAll_spec : ∀ {l : List RW} {ms : List Nat} {j : Nat}, ordAll l ms j = true → ∀ (p q : Nat) (b a : RW) (m : Nat), l[p]? = some b → ms[p]? = some m → l[q]? = some a → p < q → (confB a b || confB b a) = true → q ≤ j → Nat.testBit m (j - q) = true
 | [], _, _, _, p, q, b, a, m, h, _, _, _, _, _ => by simp at h
 | x :: r, [], j, h, p, q, b, a, m, hp, hm, hq, hpq, hc, hle => by simp at hm
 | x :: r, y :: ms, j, h, p, q, b, a, m, hp, hm, hq, hpq, hc, hle => by
  unfold ordAll at h
  split at h
  · rename_i hone
    obtain ⟨q, rfl⟩ : ∃ q', q = q' + 1 := ⟨q - 1, by omega⟩
    cases p with
    | zero =>
     simp at hp hm; subst hp; subst hm
     have := ordOne_spec hone q a (by simpa using hq) hc (by omega)
     rwa [show j - 1 - q = j - (q + 1) by omega] at this
    | succ p =>
     have := ordAll_spec h p q b a m (by simpa using hp) (by simpa using hm) (by simpa using hq) (by omega) hc (by omega)
     rwa [show j - 1 - q = j - (q + 1) by omega] at this
  · cases h
theorem rwsOf_eq (ops : List Oper) : ∀ (l : List Oper) (tr : List (List Nat × List Nat)) (acc : List RW), rwsOf ops l tr acc = (List.zipWith (fun o (p : List Nat × List Nat) => (⟨o.dst, readsOf ops o, p.1, p.2⟩ : RW)) l tr).reverse ++ acc
 | [], _, acc => by simp [rwsOf]
 | o :: l, [], acc => by simp [rwsOf]
 | o :: l, (ks, ns) :: tr, acc => by simp [rwsOf, rwsOf_eq ops l tr]
structure AccOK (L : List Oper) (i : Nat) (acc : List Nat) : Prop where
 len : acc.length = i
 ok : ∀ k, k < i → ∀ j, Nat.testBit (acc.getD (i - 1 - k) 0) j = true → Anc L k j
theorem ancE_spec {L : List Oper} {i : Nat} {acc : List Nat} (ha : AccOK L i acc) {o : Oper} (ho : L[i]? = some o) : ∀ (es : List Edge), (∀ e ∈ es, e ∈ o.after.toList) → ∀ j, Nat.testBit (ancE acc i es) j = true → Anc L i j
 | [], _, j, h => by simp [ancE] at h
 | e :: r, hs, j, h => by
  have ih := ancE_spec ha ho r (fun e he => hs e (List.mem_cons_of_mem _ he))
  unfold ancE at h
  dsimp only at h
  split at h
  · rename_i hb hlt
    have hlt : e.on < i := Nat.le_of_ble_eq_true hlt
    have hdir : Anc L i e.on := fun D _ hr => hr o ho e (hs e List.mem_cons_self) hb
    split at h
    · exact ih j h
    · rw [show Nat.lor (Nat.lor (ancE acc i r) (2 ^ e.on)) (acc.getD (i - 1 - e.on) 0) = (ancE acc i r ||| 2 ^ e.on) ||| acc.getD (i - 1 - e.on) 0 from rfl, Nat.testBit_or, Nat.testBit_or, Bool.or_eq_true, Bool.or_eq_true] at h
      rcases h with (h | h) | h
      · exact ih j h
      · rw [Nat.testBit_two_pow] at h
        have : e.on = j := by simpa using h
        rw [← this]; exact hdir
      · have := ha.ok e.on hlt j h
        exact fun D hc hr => this D hc (hc _ (hdir D hc hr))
  · exact ih j h
theorem ancs_spec {L : List Oper} : ∀ {l : List Oper} {i : Nat} {acc : List Nat}, l = L.drop i → i + l.length = L.length → AccOK L i acc → AccOK L L.length (ancs l i acc)
 | [], i, acc, _, hl, ha => by
  have : i = L.length := by simpa using hl
  rw [← this]; exact ha
 | o :: r, i, acc, hd, hl, ha => by
  obtain ⟨h1, h2⟩ := drop_cons hd
  unfold ancs
  refine ancs_spec h2 (by simp at hl; omega) ⟨by simp [ha.len], fun k hk j hj => ?_⟩
  by_cases hki : k = i
  · subst hki
    rw [show k + 1 - 1 - k = 0 by omega] at hj
    exact ancE_spec ha h1 _ (fun e he => he) j hj
  · rw [show i + 1 - 1 - k = (i - 1 - k) + 1 by omega] at hj
    exact ha.ok k (by omega) j (by simpa using hj)
theorem backB_spec : ∀ {l : List Oper} {i : Nat}, backB l i = true → ∀ (j : Nat) (o : Oper), l[j]? = some o → ∀ e ∈ o.after.toList, bindsAny e = true → e.on < i + j
 | [], _, _, j, o, h, _, _, _ => by simp at h
 | a :: r, i, h, j, o, hj, e, he, hb => by
  unfold backB at h
  split at h
  · rename_i ha
    cases j with
    | zero =>
     simp at hj; subst hj
     have := List.all_eq_true.1 ha e he
     rw [hb] at this
     simp only [Bool.not_true, Bool.false_or] at this
     exact Nat.le_of_ble_eq_true this
    | succ j =>
     have := backB_spec h j o (by simpa using hj) e he hb
     omega
  · cases h
theorem ordB_spec {L : List Oper} {E : List TE} (hEL : E.length = L.length) {tr : List (List Nat × List Nat)} (htr : tr = (E.map (fun e => (keysH e.hw, e.ns))).reverse) (h : ordB L tr = true) :
    (∀ i o, L[i]? = some o → ∀ e ∈ o.after.toList, bindsAny e = true → e.on < i) ∧ ∀ j i, j < i → (Conf L E j i ∨ Conf L E i j) → Anc L i j := by
 unfold ordB at h
 split at h
 · rename_i hb
   refine ⟨fun i o ho e he hbn => by have := backB_spec hb i o ho e he hbn; omega, fun j i hji hc => ?_⟩
   rw [htr, List.reverse_reverse, rwsOf_eq, List.append_nil] at h
   have hacc : AccOK L L.length (ancs L 0 []) := ancs_spec (by simp) (by simp) ⟨rfl, fun k hk => by omega⟩
   have key : ∃ oj ej oi ei, L[j]? = some oj ∧ E[j]? = some ej ∧ L[i]? = some oi ∧ E[i]? = some ei ∧ (confB ⟨oj.dst, readsOf L oj, keysH ej.hw, ej.ns⟩ ⟨oi.dst, readsOf L oi, keysH ei.hw, ei.ns⟩ || confB ⟨oi.dst, readsOf L oi, keysH ei.hw, ei.ns⟩ ⟨oj.dst, readsOf L oj, keysH ej.hw, ej.ns⟩) = true := by
    have conf_of : ∀ (a b : Nat), Conf L E a b → ∃ oj ej oi ei, L[a]? = some oj ∧ E[a]? = some ej ∧ L[b]? = some oi ∧ E[b]? = some ei ∧ confB ⟨oj.dst, readsOf L oj, keysH ej.hw, ej.ns⟩ ⟨oi.dst, readsOf L oi, keysH ei.hw, ei.ns⟩ = true := by
     rintro a b ⟨oj, ej, oi, ei, h1, h2, h3, h4, h5⟩
     refine ⟨oj, ej, oi, ei, h1, h2, h3, h4, ?_⟩
     unfold confB
     simp only [Bool.or_eq_true]
     rcases h5 with ⟨d, hd, hr⟩ | ⟨n, hn, hr⟩
     · refine .inl (.inl ?_)
       rw [hd]
       dsimp only
       rw [Bool.or_eq_true]
       rcases hr with hr | hr
       · exact .inl (memN_iff.2 hr)
       · refine .inr ?_
         rw [hr]; simp
     · rcases hr with hr | hr
       · exact .inl (.inr (hits_spec.2 ⟨n, hn, hr⟩))
       · exact .inr (hits_spec.2 ⟨n, hn, hr⟩)
    rcases hc with hc | hc
    · obtain ⟨oj, ej, oi, ei, h1, h2, h3, h4, h5⟩ := conf_of j i hc
      exact ⟨oj, ej, oi, ei, h1, h2, h3, h4, by rw [h5]; rfl⟩
    · obtain ⟨oi, ei, oj, ej, h1, h2, h3, h4, h5⟩ := conf_of i j hc
      exact ⟨oj, ej, oi, ei, h3, h4, h1, h2, by rw [h5, Bool.or_true]⟩
   obtain ⟨oj, ej, oi, ei, h1, h2, h3, h4, h5⟩ := key
   have hi := (List.getElem?_eq_some_iff.1 h3).1
   have hzl : (List.zipWith (fun o (p : List Nat × List Nat) => (⟨o.dst, readsOf L o, p.1, p.2⟩ : RW)) L (E.map (fun e => (keysH e.hw, e.ns)))).length = L.length := by simp [hEL]
   have hz : ∀ k o e, L[k]? = some o → E[k]? = some e → (List.zipWith (fun o (p : List Nat × List Nat) => (⟨o.dst, readsOf L o, p.1, p.2⟩ : RW)) L (E.map (fun e => (keysH e.hw, e.ns)))).reverse[L.length - 1 - k]? = some ⟨o.dst, readsOf L o, keysH e.hw, e.ns⟩ := fun k o e g1 g2 => by
    have hk := (List.getElem?_eq_some_iff.1 g1).1
    rw [List.getElem?_reverse (by rw [hzl]; omega), hzl, show L.length - 1 - (L.length - 1 - k) = k by omega, List.getElem?_zipWith, g1, List.getElem?_map, g2]
    rfl
   have hm : (ancs L 0 [])[L.length - 1 - i]? = some ((ancs L 0 []).getD (L.length - 1 - i) 0) := by
    have : L.length - 1 - i < (ancs L 0 []).length := by rw [hacc.len]; omega
    rw [List.getD_eq_getElem?_getD, List.getElem?_eq_getElem this]; rfl
   have := ordAll_spec h (L.length - 1 - i) (L.length - 1 - j) _ _ _ (hz i oi ei h3 h4) hm (hz j oj ej h1 h2) (by omega) h5 (by omega)
   rw [show L.length - 1 - (L.length - 1 - j) = j by omega] at this
   exact hacc.ok i hi j this
 · cases h
end Go.Gv

/- A region whose operations run in the order of the text, where the outcomes of some are settled only when they run. -/
namespace Go.Gv
open Go
theorem filter_stamp {e : MapEntry} : ∀ {l : List MapEntry} {j : Nat}, (l.map (·.born)).Nodup → l[j]? = some e → l.filter (fun x => x.born != e.born) = l.eraseIdx j
 | [], j, _, h => by simp at h
 | x :: l, 0, hn, h => by
  simp only [List.getElem?_cons_zero, Option.some.injEq] at h; subst h
  have hn' : x.born ∉ l.map (·.born) := (List.nodup_cons.1 hn).1
  rw [List.filter_cons_of_neg (by simp), List.eraseIdx_cons_zero]
  apply List.filter_eq_self.2
  intro y hy
  simp only [bne_iff_ne, ne_eq]
  exact fun e => hn' (List.mem_map.2 ⟨y, hy, e⟩)
 | x :: l, j + 1, hn, h => by
  simp only [List.getElem?_cons_succ] at h
  obtain ⟨hn1, hn2⟩ := List.nodup_cons.1 hn
  have hx : x.born ≠ e.born := fun he => hn1 (List.mem_map.2 ⟨e, List.mem_of_getElem? h, he.symm⟩)
  rw [List.filter_cons_of_pos (by simpa using hx), List.eraseIdx_cons_succ, filter_stamp hn2 h]
theorem rep_erase {k v : Ty} {m : List (Dat k × Dat v)} {G : GW} {es : Array MapEntry} (h : MapRep k v m G es) {fs : Array MapEntry} {j : Nat} (hj : j < m.length) (hf : fs.toList = es.toList.eraseIdx j) : MapRep k v (m.eraseIdx j) G fs := by
 have h1 : es.toList.length = m.length := by simpa using h.1
 refine ⟨?_, fun i e he => ?_⟩
 · rw [← Array.length_toList, hf, List.length_eraseIdx, List.length_eraseIdx, h1]
 · rw [← Array.getElem?_toList, hf, List.getElem?_eraseIdx] at he
   rw [List.getElem?_eraseIdx]
   by_cases hi : i < j
   · rw [if_pos hi] at he ⊢
     exact h.2 i e (by rw [← Array.getElem?_toList]; exact he)
   · rw [if_neg hi] at he ⊢
     exact h.2 (i + 1) e (by rw [← Array.getElem?_toList]; exact he)
theorem noCells {w : World} {b o : Nat} {ob : Obj} (h : w.heap[b]? = some ob) (hc : ob.isCells = false) : w.cell? ⟨b, o, none⟩ = none ∧ w.frozen? ⟨b, o, none⟩ = false := by
 simp only [World.cell?, World.frozen?, h]
 cases ob <;> first | exact ⟨rfl, rfl⟩ | (simp [Obj.isCells] at hc)
theorem setOb_step {hp : Nat → HObj} {β : Asg} {G : GW} (H : HeapOK hp β G) {h r : Nat} {v : Value} (hv : β h = some v) (hc : ∀ o, fpc (hp h) v r o) (ho : fpo (hp h) v r) {ob ob' : Obj} (hob : G.w.heap[r]? = some ob) (hcell : ob.isCells = false) (hcell' : ob'.isCells = false) (d : Nat) (hd : G.w.drawn ≤ d) :
    Step (fpc (hp h) v) (fpo (hp h) v) G { G with w := { G.w with heap := G.w.heap.setIfInBounds r ob', drawn := d } } := by
 have hne : ∀ b, b ≠ r → (G.w.heap.setIfInBounds r ob')[b]? = G.w.heap[b]? := fun b hb => by
  rw [Array.getElem?_setIfInBounds_ne (fun e => hb e.symm)]
 have hcells : ∀ b o, ({ G.w with heap := G.w.heap.setIfInBounds r ob', drawn := d } : World).cell? ⟨b, o, none⟩ = G.w.cell? ⟨b, o, none⟩ ∧ ({ G.w with heap := G.w.heap.setIfInBounds r ob', drawn := d } : World).frozen? ⟨b, o, none⟩ = G.w.frozen? ⟨b, o, none⟩ := fun b o => by
  by_cases e : b = r
  · subst e
    have hlt : b < G.w.heap.size := (Array.getElem?_eq_some_iff.1 hob).1
    have h1 : (G.w.heap.setIfInBounds b ob')[b]? = some ob' := by rw [Array.getElem?_setIfInBounds_self_of_lt hlt]
    have k1 := noCells (w := { G.w with heap := G.w.heap.setIfInBounds b ob', drawn := d }) (o := o) h1 hcell'
    have k2 := noCells (w := G.w) (o := o) hob hcell
    exact ⟨k1.1.trans k2.1.symm, k1.2.trans k2.2.symm⟩
  · simp only [World.cell?, World.frozen?, hne b e]
    exact ⟨trivial, trivial⟩
 exact {
  os := rfl
  tape := rfl
  output := rfl
  size := by simp
  cell := fun b o _ _ => hcells b o
  blk := fun b _ hn _ => hne b (fun e => hn 0 (by subst e; exact hc 0))
  obj := fun b es0 c0 hno he => (hne b (fun e => hno (by subst e; exact ho))).trans he
  le := ⟨fun b o hi => ⟨hi, (hcells b o).1⟩, fun b hi => ⟨hi, hne b (fun e => (H.imo h _ hv b (by subst e; exact ho)).1 hi)⟩⟩
  new := fun _ _ hi => .inl hi
  newo := fun _ hi => .inl hi
  drawn := .inl hd
  nz := rfl }
theorem next_run {P : Program} {C : Ctx} {hp : Nat → HObj} {β : Asg} {G : GW} (H : HInv C hp β G) {h : Nat} {k v : Ty} {y : ObDat (.mit k v)} (hh : hp h = .ob (.mit k v) y) {u : Value} (hu : β h = some u) (T : TypeId) :
    ∃ i : Nat, (y.1 ≠ [] → i < y.1.length) ∧ ∃ w G', (Instr.next u false T).run P G.w = .ok w G'.w ∧ HInv C (hset hp [(h, .ob (.mit k v) (y.1.eraseIdx i, y.1.getD i (dflt k, dflt v), y.1 ≠ []))]) β G' ∧ G.le G' ∧
     (y.1 ≠ [] → ∃ a b, w = .tuple #[.bool true, a, b]) ∧ (¬ y.1 ≠ [] → w = .tuple #[.bool false]) := by
 obtain ⟨left, x, q⟩ := y
 obtain ⟨u', hu', hsat⟩ := H.heap.sat h (by rw [hh]; simp)
 rw [hu] at hu'; cases hu'
 rw [hh] at hsat
 obtain ⟨r, rfl, hsat⟩ := hsat
 have hfc : ∀ o, fpc (hp h) (.pointer (some ⟨r, 0, none⟩)) r o := fun o => by rw [hh]; rfl
 have hfo : fpo (hp h) (.pointer (some ⟨r, 0, none⟩)) r := by rw [hh]; rfl
 dsimp only
 have stay : left = [] → obSat (.mit k v) (left.eraseIdx 0, left.getD 0 (dflt k, dflt v), left ≠ []) (.pointer (some ⟨r, 0, none⟩)) G → (Instr.next (.pointer (some ⟨r, 0, none⟩)) false T).run P G.w = .ok (.tuple #[.bool false]) G.w →
     ∃ i : Nat, (left ≠ [] → i < left.length) ∧ ∃ w G', (Instr.next (.pointer (some ⟨r, 0, none⟩)) false T).run P G.w = .ok w G'.w ∧ HInv C (hset hp [(h, .ob (.mit k v) (left.eraseIdx i, left.getD i (dflt k, dflt v), left ≠ []))]) β G' ∧ G.le G' ∧
     (left ≠ [] → ∃ a b, w = .tuple #[.bool true, a, b]) ∧ (¬ left ≠ [] → w = .tuple #[.bool false]) := fun hl hs hr =>
  ⟨0, fun hn => (hn hl).elim, _, G, hr, H.write h _ _ hu (by simp) rfl rfl (Step.refl _ _ G) hs (fun b i hf => by rw [hh]; exact hf) (fun b hf => by rw [hh]; exact hf), G.le_refl, fun hn => (hn hl).elim, fun _ => rfl⟩
 rcases hsat with ⟨h1, h2, a, s, l, h3⟩ | ⟨b, es, c, seen, h1, h2, h3, h4, h5, h6⟩
 · subst h1
   refine stay rfl ⟨r, rfl, .inl ⟨rfl, fun hn => hn rfl, a, s, l, h3⟩⟩ ?_
   have g1 : (getObj r).run P G.w = .ok (.mapIter none a s l) G.w := by simp [getObj, Sem.run, h3]
   simp [Instr.next, g1, Result.andThen]
 · have g1 : (getObj r).run P G.w = .ok (.mapIter (some b) c seen c) G.w := by simp [getObj, Sem.run, h1]
   have g2 : (getObj b).run P G.w = .ok (.map es c) G.w := by simp [getObj, Sem.run, h3]
   have htest : (!seen.isEmpty && !es.isEmpty && es.all (fun e => decide (e.born ≥ c))) = false := by
    cases hes : es.isEmpty with
    | true => simp
    | false =>
     have : es.all (fun e => decide (e.born ≥ c)) = false := by
      rw [Array.all_eq_false]
      have hpos : 0 < es.size := by
       rcases Nat.eq_zero_or_pos es.size with h0 | h0
       · have : es = #[] := Array.eq_empty_of_size_eq_zero h0
         rw [this] at hes; cases hes
       · exact h0
      refine ⟨0, hpos, ?_⟩
      have := h4.1 es[0] (by simp)
      simp; omega
     rw [this]; simp
   obtain ⟨L, hL⟩ : ∃ L, L = es.filter (fun e => !seen.contains e.born) := ⟨_, rfl⟩
   rw [← hL] at h5
   have hmem : ∀ x ∈ L.toList, x.born < c := fun x hx => h4.1 x (by rw [hL] at hx; simp at hx ⊢; exact hx.1)
   have e1 : L.filter (fun x => decide (x.born < c)) = L := Array.filter_eq_self.2 (fun x hx => by simpa using hmem x (by simpa using hx))
   have e2 : L.filter (fun x => decide (x.born ≥ c)) = #[] := by
    rw [Array.filter_eq_empty_iff]
    intro x hx
    have := hmem x (by simpa using hx)
    simp; omega
   have hsz : L.size = left.length := h5.1
   by_cases h0 : left = []
   · have hL0 : L = #[] := Array.eq_empty_of_size_eq_zero (by rw [hsz, h0]; rfl)
     subst h0
     refine stay rfl ⟨r, rfl, .inr ⟨b, es, c, seen, h1, h2, h3, h4, by rw [← hL]; exact h5, fun hn => (hn rfl).elim⟩⟩ ?_
     simp only [Instr.next, Sem.run_bind, g1, g2, Result.andThen, htest, Bool.false_eq_true, if_false, ← hL, e1, e2, Array.append_empty]
     rw [hL0]
     simp [choose, Sem.run, Question.forced]
   · have hne : L.isEmpty = false := by
      have : L.size ≠ 0 := by rw [hsz]; exact fun e => h0 (List.eq_nil_of_length_eq_zero e)
      simp [Array.isEmpty, this]
     have hpos : 0 < L.size := by rw [hsz]; exact List.length_pos_iff.2 h0
     obtain ⟨j, d, hj, hdd, hch⟩ : ∃ (j d : Nat), j < L.size ∧ G.w.drawn ≤ d ∧ (choose (Question.mapNext L.size)).run P G.w = .ok j { G.w with drawn := d } := by
      by_cases hf : L.size ≤ 1
      · exact ⟨0, G.w.drawn, by omega, Nat.le_refl _, by simp [choose, Sem.run, Question.forced, hf]⟩
      · exact ⟨_, G.w.drawn + 1, Nat.mod_lt _ (by omega), Nat.le_succ _, by
         simp only [choose, Sem.run, Question.forced, decide_eq_true_eq, hf, if_false, Question.cut]
         rfl⟩
     have hjl : j < left.length := by rw [← hsz]; exact hj
     have hst := setOb_step H.heap hu hfc hfo h1 rfl (ob' := .mapIter (some b) c (seen.push L[j].born) c) rfl d hdd
     have hLl : L.toList = es.toList.filter (fun e => !seen.contains e.born) := by rw [hL, Array.toList_filter]
     have hLn : (L.toList.map (·.born)).Nodup := by
      rw [hLl]
      exact List.Sublist.nodup (List.Sublist.map _ List.filter_sublist) h4.2
     obtain ⟨e0, he0⟩ : ∃ e0, e0 = L[j] := ⟨_, rfl⟩
     rw [← he0] at hst
     have hLj : L.toList[j]? = some e0 := by rw [he0]; simp [hj]
     have hLe : e0 ∈ es.toList := by
      have := List.mem_of_getElem? hLj
      rw [hLl] at this
      exact (List.mem_filter.1 this).1
     have hfil : (es.filter (fun e => !(seen.push e0.born).contains e.born)).toList = L.toList.eraseIdx j := by
      rw [← filter_stamp hLn hLj, hLl, Array.toList_filter, List.filter_filter]
      congr 1
      funext e
      simp only [Array.contains_push, Bool.not_or]
      cases seen.contains e.born <;> cases hq : (e.born == e0.born) <;> simp_all [bne]
     obtain ⟨y, hy, r1, r2⟩ := h5.2 j e0 (by rw [← Array.getElem?_toList]; exact hLj)
     have hyd : left.getD j (dflt k, dflt v) = y := by rw [List.getD_eq_getElem?_getD, hy]; rfl
     have hbr : b ≠ r := fun e => by subst e; rw [h1] at h3; cases h3
     have hob' : ({ G.w with heap := G.w.heap.setIfInBounds r (.mapIter (some b) c (seen.push e0.born) c), drawn := d } : World).heap[b]? = some (.map es c) := by
      show (G.w.heap.setIfInBounds r _)[b]? = _
      rw [Array.getElem?_setIfInBounds_ne (fun e => hbr e.symm)]; exact h3
     refine ⟨j, fun _ => hjl, .tuple #[.bool true, e0.key, e0.val], { G with w := { G.w with heap := G.w.heap.setIfInBounds r (.mapIter (some b) c (seen.push e0.born) c), drawn := d } }, ?_, ?_, hst.le, fun _ => ⟨_, _, rfl⟩, fun hn => (hn h0).elim⟩
     · have hset : (setObj r (.mapIter (some b) c (seen.push e0.born) c)).run P { G.w with drawn := d } = .ok () { G.w with heap := G.w.heap.setIfInBounds r (.mapIter (some b) c (seen.push e0.born) c), drawn := d } := by
        simp [setObj, Sem.run, h1]
       simp only [Instr.next, Sem.run_bind, g1, g2, Result.andThen, htest, Bool.false_eq_true, if_false, ← hL, e1, e2, Array.append_empty, hne, Array.empty_append, Array.size_map, hch, Array.getElem?_map, (show L[j]? = some e0 from by rw [← Array.getElem?_toList]; exact hLj), Option.map_some, hset]
       rfl
     · refine H.write h _ _ hu (by simp) rfl rfl hst ?_ (fun b i hf => by rw [hh]; exact hf) (fun b hf => by rw [hh]; exact hf)
       refine ⟨r, rfl, .inr ⟨b, es, c, seen.push e0.born, ?_, h2, hob', h4, (rep_erase h5 hjl hfil).mono hst.le, fun _ => ⟨e0, hLe, by simp, ?_, ?_⟩⟩⟩
       · have hlt : r < G.w.heap.size := (Array.getElem?_eq_some_iff.1 h1).1
         show (G.w.heap.setIfInBounds r _)[r]? = _
         rw [Array.getElem?_setIfInBounds_self_of_lt hlt]
       · rw [hyd]; exact r1.mono hst.le
       · rw [hyd]; exact r2.mono hst.le
theorem filter_key {α κ : Type} [DecidableEq κ] (f : α → κ) {e : α} : ∀ {l : List α} {j : Nat}, (l.map f).Nodup → l[j]? = some e → l.filter (fun x => !decide (f x = f e)) = l.eraseIdx j
 | [], j, _, h => by simp at h
 | x :: l, 0, hn, h => by
  simp only [List.getElem?_cons_zero, Option.some.injEq] at h; subst h
  have hn' : f x ∉ l.map f := (List.nodup_cons.1 hn).1
  rw [List.filter_cons_of_neg (by simp), List.eraseIdx_cons_zero]
  apply List.filter_eq_self.2
  intro y hy
  have : ¬ f y = f x := fun e => hn' (List.mem_map.2 ⟨y, hy, e⟩)
  simp [this]
 | x :: l, j + 1, hn, h => by
  simp only [List.getElem?_cons_succ] at h
  obtain ⟨hn1, hn2⟩ := List.nodup_cons.1 hn
  have hx : ¬ f x = f e := fun he => hn1 (List.mem_map.2 ⟨e, List.mem_of_getElem? h, he.symm⟩)
  rw [List.filter_cons_of_pos (by simp [hx]), List.eraseIdx_cons_succ, filter_key f hn2 h]
theorem zip_erase {α β : Type} : ∀ (l : List α) (r : List β) (j : Nat), List.zip (l.eraseIdx j) (r.eraseIdx j) = (List.zip l r).eraseIdx j
 | [], _, _ => by simp
 | a :: l, [], _ => by simp
 | a :: l, b :: r, 0 => by simp
 | a :: l, b :: r, j + 1 => by simp only [List.eraseIdx_cons_succ, List.zip_cons_cons]; rw [zip_erase l r j]
theorem map_eraseIdx' {α β : Type} (f : α → β) : ∀ (l : List α) (j : Nat), (l.eraseIdx j).map f = (l.map f).eraseIdx j
 | [], _ => by simp
 | a :: l, 0 => by simp
 | a :: l, j + 1 => by simp only [List.eraseIdx_cons_succ, List.map_cons]; rw [map_eraseIdx' f l j]
section
variable {α : Type} {seen : Array Nat} {m : List α} {es : Array MapEntry} (hl : es.size = m.length)
include hl
theorem zip_fst : (List.zip m es.toList).map Prod.fst = m := List.map_fst_zip (by simp [hl])
theorem zip_snd : (List.zip m es.toList).map Prod.snd = es.toList := List.map_snd_zip (by simp [hl])
theorem unmet_start : unmet #[] m es = m := by
 unfold unmet
 rw [List.filter_eq_self.2 (fun _ _ => by simp)]
 exact zip_fst hl
theorem unmet_es : (es.filter fun e => !seen.contains e.born).toList = ((List.zip m es.toList).filter fun p => !seen.contains p.2.born).map Prod.snd := by
 rw [Array.toList_filter]
 conv => lhs; rw [← zip_snd hl]
 rw [List.filter_map]
 rfl
theorem unmet_len : (es.filter fun e => !seen.contains e.born).size = (unmet seen m es).length := by
 rw [← Array.length_toList, unmet_es hl]
 unfold unmet
 simp
theorem unmet_next (hn : (es.toList.map (·.born)).Nodup) {j : Nat} {e : MapEntry} (hj : (es.filter fun e => !seen.contains e.born)[j]? = some e) :
    unmet (seen.push e.born) m es = (unmet seen m es).eraseIdx j ∧ ∃ (i : Nat) (x : α), es[i]? = some e ∧ m[i]? = some x ∧ (unmet seen m es)[j]? = some x := by
 obtain ⟨Z, hZ⟩ : ∃ Z, Z = List.zip m es.toList := ⟨_, rfl⟩
 have hZs : Z.map Prod.snd = es.toList := by rw [hZ]; exact zip_snd hl
 have h1 : ((Z.filter fun p => !seen.contains p.2.born).map Prod.snd)[j]? = some e := by
  rw [hZ, ← unmet_es hl, Array.getElem?_toList]; exact hj
 rw [List.getElem?_map, Option.map_eq_some_iff] at h1
 obtain ⟨⟨x, e'⟩, h1, rfl⟩ := h1
 dsimp only at *
 have hZn : ((Z.filter fun p => !seen.contains p.2.born).map (fun p => p.2.born)).Nodup := by
  refine List.Sublist.nodup (List.Sublist.map _ List.filter_sublist) ?_
  have : Z.map (fun p => p.2.born) = es.toList.map (·.born) := by rw [← hZs, List.map_map]; rfl
  rw [this]; exact hn
 refine ⟨?_, ?_⟩
 · unfold unmet
   rw [← hZ, ← map_eraseIdx', ← filter_key (fun p : α × MapEntry => p.2.born) hZn h1, List.filter_filter]
   congr 2
   funext p
   simp only [Array.contains_push, Bool.not_or]
   cases seen.contains p.2.born <;> cases hq : (p.2.born == e'.born) <;> simp_all
 · have hm := (List.mem_filter.1 (List.mem_of_getElem? h1)).1
   obtain ⟨i, hi⟩ := List.mem_iff_getElem?.1 hm
   rw [hZ, List.getElem?_zip_eq_some] at hi
   refine ⟨i, x, by rw [← Array.getElem?_toList]; exact hi.2, hi.1, ?_⟩
   unfold unmet
   rw [← hZ, List.getElem?_map, h1]; rfl
end
theorem unmet_del {κ δ : Type} [DecidableEq κ] {seen : Array Nat} {m : List (κ × δ)} {es : Array MapEntry} (hl : es.size = m.length) (hn : (m.map Prod.fst).Nodup) {j : Nat} {x : κ × δ} (hj : m[j]? = some x) :
    unmet seen (m.eraseIdx j) (es.eraseIdxIfInBounds j) = (unmet seen m es).filter (fun e => !decide (e.1 = x.1)) := by
 have hjl : j < m.length := (List.getElem?_eq_some_iff.1 hj).1
 have he : (es.eraseIdxIfInBounds j).toList = es.toList.eraseIdx j := by
  unfold Array.eraseIdxIfInBounds
  rw [dif_pos (by omega)]; simp
 obtain ⟨Z, hZ⟩ : ∃ Z, Z = List.zip m es.toList := ⟨_, rfl⟩
 have hZf : Z.map Prod.fst = m := by rw [hZ]; exact zip_fst hl
 have hZn : (Z.map (fun p => p.1.1)).Nodup := by
  have : Z.map (fun p => p.1.1) = m.map Prod.fst := by rw [← hZf, List.map_map]; rfl
  rw [this]; exact hn
 have hZj : ∃ e, Z[j]? = some (x, e) := by
  have : (Z.map Prod.fst)[j]? = some x := by rw [hZf]; exact hj
  rw [List.getElem?_map, Option.map_eq_some_iff] at this
  obtain ⟨⟨a, e⟩, h, rfl⟩ := this
  exact ⟨e, h⟩
 obtain ⟨e, hZj⟩ := hZj
 have := filter_key (fun p : (κ × δ) × MapEntry => p.1.1) hZn hZj
 unfold unmet
 rw [he, zip_erase, ← hZ, ← this, List.filter_map, List.filter_filter, List.filter_filter]
 congr 2
 funext p
 rw [Bool.and_comm]; rfl
theorem unmet_sub {α : Type} {seen : Array Nat} {m : List α} {es : Array MapEntry} {x : α} (h : x ∈ unmet seen m es) : x ∈ m := by
 unfold unmet at h
 obtain ⟨p, hp, rfl⟩ := List.mem_map.1 h
 obtain ⟨a, b⟩ := p
 exact (List.of_mem_zip (List.mem_filter.1 hp).1).1
theorem mget_no {κ δ : Type} [DecidableEq κ] {y : κ} : ∀ {m : List (κ × δ)}, mget m y = none → ∀ e ∈ m, e.1 ≠ y
 | [], _, e, he => by cases he
 | (a, b) :: m, h, e, he => by
  unfold mget at h
  split at h
  · cases h
  · rename_i hne
    rcases List.mem_cons.1 he with rfl | he
    · exact hne
    · exact mget_no h e he
theorem Step.setMapG {hp : Nat → HObj} {β : Asg} {G : GW} (H : HeapOK hp β G) {h : Nat} {v : Value} {b : Nat} {es : Array MapEntry} {c : Nat} (hb : β h = some v) (hin : fpo (hp h) v b) (ho : G.w.heap[b]? = some (.map es c)) (es' : Array MapEntry) (c' : Nat) :
    Step (fpc (hp h) v) (fpo (hp h) v) G { G with w := { G.w with heap := G.w.heap.setIfInBounds b (.map es' c') } } := by
 have hne : ∀ b', b' ≠ b → (G.w.heap.setIfInBounds b (.map es' c'))[b']? = G.w.heap[b']? := fun b' hne => (MapKept.heap_set ho).2 b' hne
 have hcell : ∀ b' o, ({ G.w with heap := G.w.heap.setIfInBounds b (.map es' c') } : World).cell? ⟨b', o, none⟩ = G.w.cell? ⟨b', o, none⟩ ∧ ({ G.w with heap := G.w.heap.setIfInBounds b (.map es' c') } : World).frozen? ⟨b', o, none⟩ = G.w.frozen? ⟨b', o, none⟩ := by
  intro b' o
  by_cases e : b' = b
  · subst e
    simp only [World.cell?, World.frozen?, (MapKept.heap_set (o' := Obj.map es' c') ho).1, ho]
    exact ⟨trivial, trivial⟩
  · simp only [World.cell?, World.frozen?, hne b' e]
    exact ⟨trivial, trivial⟩
 exact {
  os := rfl
  tape := rfl
  output := rfl
  size := by simp
  cell := fun b' o _ _ => hcell b' o
  blk := fun b' _ _ hno => hne b' (fun e => hno (by subst e; exact hin))
  obj := fun b' es0 c0 hno he => (hne b' (fun e => hno (by subst e; exact hin))).trans he
  le := ⟨fun b' o hi => ⟨hi, (hcell b' o).1⟩, fun b' hi => ⟨hi, hne b' (fun e => (H.imo h _ hb b hin).1 (by subst e; exact hi))⟩⟩
  new := fun _ _ hi => .inl hi
  newo := fun _ hi => .inl hi
  drawn := .inl (Nat.le_refl _)
  nz := rfl }
theorem rangeW_run {P : Program} {C : Ctx} {hp : Nat → HObj} {β : Asg} {G : GW} (H : HInv C hp β G) {h : Nat} {k v : Ty} {m : List (Dat k × Dat v)} (hh : hp h = .map k v m) {u : Value} (hu : β h = some u) {T a b : TypeId} (hum : P.underlying T = some (.map a b)) (d : Dat k × Dat v) :
    ∃ G', (Instr.range T u).run P G.w = .ok (.pointer (some ⟨G.w.heap.size, 0, none⟩)) G'.w ∧ HInv C (hset hp [(h, .ob (.wk k v) (m, m, d, False, G.w.heap.size))]) β G' ∧ G.le G' := by
 obtain ⟨u', hu', hsat⟩ := H.heap.sat h (by rw [hh]; simp)
 rw [hu] at hu'; cases hu'
 rw [hh] at hsat
 obtain ⟨bb, es, c, rfl, h1, h2, h3⟩ := hsat
 have hst := GW.alloc_step H.heap (.mapIter (some bb) c #[] c) (fun _ => False) False
 have hlt : bb < G.w.heap.size := (Array.getElem?_eq_some_iff.1 h1).1
 have hsz : (G.alloc (.mapIter (some bb) c #[] c) (fun _ => False) False).w.heap.size = G.w.heap.size + 1 := World.size_alloc _ _
 have hfo : ∀ b, fpo (hp h) (.map (some bb)) b ↔ b = bb := fun b => by rw [hh]; exact Iff.rfl
 have him := H.heap.imo h _ hu bb ((hfo bb).2 rfl)
 have hold : ∀ b i, (G.alloc (.mapIter (some bb) c #[] c) (fun _ => False) False).im b i → b < (G.alloc (.mapIter (some bb) c #[] c) (fun _ => False) False).w.heap.size := fun b i hi => by
  rw [hsz]
  rcases hi with hi | hi
  · have := H.heap.old b i hi; omega
  · exact hi.2.elim
 have holdo := GW.alloc_oldo H.heap (.mapIter (some bb) c #[] c) (fun _ => False) False (fun h => h.elim)
 have hc1 : ∀ (o : HObj) (n : Nat), n = h → hset hp [(h, o)] n = o := fun o n e => by subst e; simp [hset]
 refine ⟨G.alloc (.mapIter (some bb) c #[] c) (fun _ => False) False, ?_, ⟨H.heap.gen (fun n => n = h) hst (Asg.le_refl β) (fun n hne => ⟨by simp [hset, hne], rfl⟩) (fun _ _ hf => hf.elim) (fun _ hf => hf.elim)
     (fun n e hno => by rw [hc1 _ n e] at hno; cases hno) (fun n e _ => ?_) ?_ ?_ (fun n n' _ _ e e' hne => (hne (e.trans e'.symm)).elim) (fun n n' _ _ e e' hne => (hne (e.trans e'.symm)).elim) hold holdo, H.step.trans hst (fun _ _ hf => hf.elim) (fun _ hf => hf.elim), ?_, ?_, fun g t x hx => (H.glob g t x hx).mono hst.le⟩, hst.le⟩
 · simp [Instr.range, run_underlying hum, MapKept.run_getObj_map h1, GW.alloc, run_newObj]
 · subst e
   refine ⟨_, hu, ?_⟩
   rw [hc1 _ n rfl]
   exact ⟨bb, es, c, #[], rfl, by omega, (heap_alloc_lt _ _ _ hlt).trans h1, h2.mono hst.le, h3, by show (G.w.heap.push _)[G.w.heap.size]? = _; simp, (unmet_start h2.1).symm, fun h => h.elim⟩
 · intro n u e hu' b i hf
   subst e
   rw [hu] at hu'; cases hu'
   rw [hc1 _ n rfl] at hf
   have hf : b = G.w.heap.size := hf
   subst hf
   refine ⟨.inr (Nat.le_refl _), fun hi => ?_, by omega⟩
   rcases hi with hi | hi
   · have := H.heap.old _ _ hi; omega
   · exact hi.2
 · intro n u e hu' b hf
   subst e
   rw [hu] at hu'; cases hu'
   rw [hc1 _ n rfl] at hf
   have hf : b = bb ∨ b = G.w.heap.size := hf
   rcases hf with rfl | rfl
   · refine ⟨.inl ⟨n, _, rfl, hu, (hfo b).2 rfl⟩, fun hi => ?_, by omega⟩
     rcases hi with hi | hi
     · exact him.1 hi
     · exact hi.2
   · refine ⟨.inr (Nat.le_refl _), fun hi => ?_, by omega⟩
     rcases hi with hi | hi
     · have := H.heap.oldo_lt hi; omega
     · exact hi.2
 · intro n u hu' b i hf
   by_cases e : n = h
   · subst e
     rw [hu] at hu'; cases hu'
     rw [hc1 _ n rfl] at hf
     have hf : b = G.w.heap.size := hf
     have := H.step.size
     exact .inr (by omega)
   · simp [hset, e] at hf
     exact H.own n u hu' b i hf
 · intro n u hu' b hf
   by_cases e : n = h
   · subst e
     rw [hu] at hu'; cases hu'
     rw [hc1 _ n rfl] at hf
     have hf : b = bb ∨ b = G.w.heap.size := hf
     rcases hf with rfl | rfl
     · exact H.owno n _ hu b ((hfo b).2 rfl)
     · have := H.step.size
       exact .inr (by omega)
   · simp [hset, e] at hf
     exact H.owno n u hu' b hf
theorem nextW_run {P : Program} {C : Ctx} {hp : Nat → HObj} {β : Asg} {G : GW} (H : HInv C hp β G) {h : Nat} {k v : Ty} {m left : List (Dat k × Dat v)} {x : Dat k × Dat v} {q : Prop} {r : Nat} (hh : hp h = .ob (.wk k v) (m, left, x, q, r)) (T : TypeId) :
    ∃ i : Nat, (left ≠ [] → i < left.length) ∧ ∃ w G', (Instr.next (.pointer (some ⟨r, 0, none⟩)) false T).run P G.w = .ok w G'.w ∧ HInv C (hset hp [(h, .ob (.wk k v) (m, left.eraseIdx i, left.getD i (dflt k, dflt v), left ≠ [], r))]) β G' ∧ G.le G' ∧
     (left ≠ [] → ∃ a b, w = .tuple #[.bool true, a, b]) ∧ (¬ left ≠ [] → w = .tuple #[.bool false]) := by
 obtain ⟨u, hu, hsat⟩ := H.heap.sat h (by rw [hh]; simp)
 rw [hh] at hsat
 obtain ⟨b, es, c, seen, rfl, hbr, h1, h2, h3, h4, h5, h6⟩ := hsat
 have hfc : ∀ o, fpc (hp h) (.map (some b)) r o := fun o => by rw [hh]; rfl
 have hfo : fpo (hp h) (.map (some b)) r := by rw [hh]; exact .inr rfl
 have g1 : (getObj r).run P G.w = .ok (.mapIter (some b) c seen c) G.w := by simp [getObj, Sem.run, h4]
 have g2 : (getObj b).run P G.w = .ok (.map es c) G.w := by simp [getObj, Sem.run, h1]
 have htest : (!seen.isEmpty && !es.isEmpty && es.all (fun e => decide (e.born ≥ c))) = false := by
  cases hes : es.isEmpty with
  | true => simp
  | false =>
   have : es.all (fun e => decide (e.born ≥ c)) = false := by
    rw [Array.all_eq_false]
    have hpos : 0 < es.size := by
     rcases Nat.eq_zero_or_pos es.size with h0 | h0
     · have : es = #[] := Array.eq_empty_of_size_eq_zero h0
       rw [this] at hes; cases hes
     · exact h0
    refine ⟨0, hpos, ?_⟩
    have := h3.1 es[0] (by simp)
    simp; omega
   rw [this]; simp
 obtain ⟨L, hL⟩ : ∃ L, L = es.filter (fun e => !seen.contains e.born) := ⟨_, rfl⟩
 have hmem : ∀ x ∈ L.toList, x.born < c := fun x hx => h3.1 x (by rw [hL] at hx; simp at hx ⊢; exact hx.1)
 have e1 : L.filter (fun x => decide (x.born < c)) = L := Array.filter_eq_self.2 (fun x hx => by simpa using hmem x (by simpa using hx))
 have e2 : L.filter (fun x => decide (x.born ≥ c)) = #[] := by
  rw [Array.filter_eq_empty_iff]
  intro x hx
  have := hmem x (by simpa using hx)
  simp; omega
 have hsz : L.size = left.length := by rw [hL, h5]; exact unmet_len h2.1
 by_cases h0 : left = []
 · have hL0 : L = #[] := Array.eq_empty_of_size_eq_zero (by rw [hsz, h0]; rfl)
   subst h0
   refine ⟨0, fun hn => (hn rfl).elim, .tuple #[.bool false], G, ?_, H.write h _ _ hu (by simp) rfl rfl (Step.refl _ _ G) ⟨b, es, c, seen, rfl, hbr, h1, h2, h3, h4, h5, fun hn => (hn rfl).elim⟩ (fun b i hf => by rw [hh]; exact hf) (fun b hf => by rw [hh]; exact hf), G.le_refl, fun hn => (hn rfl).elim, fun _ => rfl⟩
   simp only [Instr.next, Sem.run_bind, g1, g2, Result.andThen, htest, Bool.false_eq_true, if_false, ← hL, e1, e2, Array.append_empty]
   rw [hL0]
   simp [choose, Sem.run, Question.forced]
 · have hne : L.isEmpty = false := by
    have : L.size ≠ 0 := by rw [hsz]; exact fun e => h0 (List.eq_nil_of_length_eq_zero e)
    simp [Array.isEmpty, this]
   have hpos : 0 < L.size := by rw [hsz]; exact List.length_pos_iff.2 h0
   obtain ⟨j, d, hj, hdd, hch⟩ : ∃ (j d : Nat), j < L.size ∧ G.w.drawn ≤ d ∧ (choose (Question.mapNext L.size)).run P G.w = .ok j { G.w with drawn := d } := by
    by_cases hf : L.size ≤ 1
    · exact ⟨0, G.w.drawn, by omega, Nat.le_refl _, by simp [choose, Sem.run, Question.forced, hf]⟩
    · exact ⟨_, G.w.drawn + 1, Nat.mod_lt _ (by omega), Nat.le_succ _, by
       simp only [choose, Sem.run, Question.forced, decide_eq_true_eq, hf, if_false, Question.cut]
       rfl⟩
   have hjl : j < left.length := by rw [← hsz]; exact hj
   obtain ⟨e0, he0⟩ : ∃ e0, e0 = L[j] := ⟨_, rfl⟩
   have hLj : L[j]? = some e0 := by rw [he0]; simp [hj]
   obtain ⟨hnx, i0, y, k1, k2, k3⟩ := unmet_next (m := m) h2.1 h3.2 (by rw [← hL]; exact hLj)
   rw [← h5] at hnx k3
   have hst := setOb_step H.heap hu hfc hfo h4 rfl (ob' := .mapIter (some b) c (seen.push e0.born) c) rfl d hdd
   have hyd : left.getD j (dflt k, dflt v) = y := by rw [List.getD_eq_getElem?_getD, k3]; rfl
   have hob' : ({ G.w with heap := G.w.heap.setIfInBounds r (.mapIter (some b) c (seen.push e0.born) c), drawn := d } : World).heap[b]? = some (.map es c) := by
    show (G.w.heap.setIfInBounds r _)[b]? = _
    rw [Array.getElem?_setIfInBounds_ne (fun e => hbr e.symm)]; exact h1
   refine ⟨j, fun _ => hjl, .tuple #[.bool true, e0.key, e0.val], { G with w := { G.w with heap := G.w.heap.setIfInBounds r (.mapIter (some b) c (seen.push e0.born) c), drawn := d } }, ?_, ?_, hst.le, fun _ => ⟨_, _, rfl⟩, fun hn => (hn h0).elim⟩
   · have hset : (setObj r (.mapIter (some b) c (seen.push e0.born) c)).run P { G.w with drawn := d } = .ok () { G.w with heap := G.w.heap.setIfInBounds r (.mapIter (some b) c (seen.push e0.born) c), drawn := d } := by
      simp [setObj, Sem.run, h4]
     simp only [Instr.next, Sem.run_bind, g1, g2, Result.andThen, htest, Bool.false_eq_true, if_false, ← hL, e1, e2, Array.append_empty, hne, Array.empty_append, Array.size_map, hch, Array.getElem?_map, hLj, Option.map_some, hset]
     rfl
   · refine H.write h _ _ hu (by simp) rfl rfl hst ?_ (fun b i hf => by rw [hh]; exact hf) (fun b hf => by rw [hh]; exact hf)
     refine ⟨b, es, c, seen.push e0.born, rfl, hbr, hob', h2.mono hst.le, h3, ?_, hnx.symm, fun _ => ⟨i0, e0, k1, by rw [hyd]; exact k2, by simp⟩⟩
     have hlt : r < G.w.heap.size := (Array.getElem?_eq_some_iff.1 h4).1
     show (G.w.heap.setIfInBounds r _)[r]? = _
     rw [Array.getElem?_setIfInBounds_self_of_lt hlt]
theorem entryW_run {P : Program} {C : Ctx} {hp : Nat → HObj} {β : Asg} {G : GW} (H : HInv C hp β G) {h : Nat} {k v : Ty} {m left : List (Dat k × Dat v)} {x : Dat k × Dat v} {q : Prop} {r : Nat} (hh : hp h = .ob (.wk k v) (m, left, x, q, r)) (hq : q) :
    ∃ w, (Instr.entry (.pointer (some ⟨r, 0, none⟩))).run P G.w = .ok w G.w ∧ sat (.tup (.cons (.dat k x.1) (.cons (.dat v x.2) .nil))) β G w := by
 obtain ⟨u, hu, hsat⟩ := H.heap.sat h (by rw [hh]; simp)
 rw [hh] at hsat
 obtain ⟨b, es, c, seen, rfl, hbr, h1, h2, h3, h4, h5, h6⟩ := hsat
 obtain ⟨j, e, k1, k2, k3⟩ := h6 hq
 obtain ⟨x', hx', r1, r2⟩ := h2.2 j e k1
 rw [k2] at hx'; cases hx'
 refine ⟨.tuple #[e.key, e.val], ?_, ?_⟩
 · have hf : es.find? (·.born == e.born) = some e := by rw [← Array.find?_toList]; exact find_stamp e es.toList h3.2 (List.mem_of_getElem? (by rw [Array.getElem?_toList]; exact k1))
   have g1 : (getObj r).run P G.w = .ok (.mapIter (some b) c seen c) G.w := by simp [getObj, Sem.run, h4]
   have g2 : (getObj b).run P G.w = .ok (.map es c) G.w := by simp [getObj, Sem.run, h1]
   simp [Instr.entry, g1, g2, k3, hf, Result.andThen]
 · unfold sat
   refine ⟨[e.key, e.val], rfl, ?_⟩
   unfold satT
   refine ⟨_, _, rfl, by unfold sat; exact r1, ?_⟩
   unfold satT
   refine ⟨_, _, rfl, by unfold sat; exact r2, ?_⟩
   unfold satT; rfl
theorem delW_run {P : Program} {C : Ctx} {hp : Nat → HObj} {β : Asg} {G : GW} (H : HInv C hp β G) {h : Nat} {k v : Ty} {m left : List (Dat k × Dat v)} {x : Dat k × Dat v} {q : Prop} {r : Nat} (hh : hp h = .ob (.wk k v) (m, left, x, q, r)) {u : Value} (hu : β h = some u) {T a b : TypeId} (hum : P.underlying T = some (.map a b)) (hk : keyTy k = true) (hka : tym P k a = true)
    {y : Dat k} {kv : Value} (hy : RepV k y G kv) (hn : (m.map Prod.fst).Nodup) (cats : Array TypeId) (hT : cats[0]? = some T) (ty : TypeId) :
    ∃ G', (Builtin.delete_ cats ty #[u, kv]).run P G.w = .ok (.tuple #[]) G'.w ∧ HInv C (hset hp [(h, .ob (.wk k v) (mdel m y, left.filter (fun e => !decide (e.1 = y)), x, False, r))]) β G' ∧ G.le G' := by
 obtain ⟨u', hu', hsat⟩ := H.heap.sat h (by rw [hh]; simp)
 rw [hu] at hu'; cases hu'
 rw [hh] at hsat
 obtain ⟨bb, es, c, seen, rfl, hbr, h1, h2, h3, h4, h5, h6⟩ := hsat
 have hin : fpo (hp h) (.map (some bb)) bb := by rw [hh]; exact .inl rfl
 have fin : ∀ (es' : Array MapEntry), MapRep k v (mdel m y) G es' → Born es' c → left.filter (fun e => !decide (e.1 = y)) = unmet seen (mdel m y) es' → (Builtin.delete_ cats ty #[.map (some bb), kv]).run P G.w = .ok (.tuple #[]) { G.w with heap := G.w.heap.setIfInBounds bb (.map es' c) } →
     ∃ G', (Builtin.delete_ cats ty #[.map (some bb), kv]).run P G.w = .ok (.tuple #[]) G'.w ∧ HInv C (hset hp [(h, .ob (.wk k v) (mdel m y, left.filter (fun e => !decide (e.1 = y)), x, False, r))]) β G' ∧ G.le G' := fun es' hr' hbn' hl' hrun => by
  have hst := Step.setMapG H.heap hu hin h1 es' c
  have hrr : (G.w.heap.setIfInBounds bb (.map es' c))[r]? = G.w.heap[r]? := (MapKept.heap_set h1).2 r (fun e => hbr e.symm)
  refine ⟨{ G with w := { G.w with heap := G.w.heap.setIfInBounds bb (.map es' c) } }, hrun, H.write h _ _ hu (by simp) rfl rfl hst ⟨bb, es', c, seen, rfl, hbr, (MapKept.heap_set h1).1, hr'.mono hst.le, hbn', hrr.trans h4, hl', fun h => h.elim⟩ (fun _ _ hf => by rw [hh]; exact hf) (fun b hf => by rw [hh]; exact hf), hst.le⟩
 rcases find_spec hk hka hy (dflt v) G.w (es := es.toList) (m := m) (by simpa using h2.1) (fun j e he => h2.2 j e (by simpa using he)) with ⟨q1, q4, _, q5⟩ | ⟨j, e', x', q3, q2, q7, _, q6, _, _, q8⟩
 · refine fin es (by rw [q5]; exact h2) h3 ?_ ?_
   · rw [q5, ← h5]
     refine List.filter_eq_self.2 fun e he => ?_
     have := mget_no q1 e (unmet_sub (by rw [h5] at he; exact he))
     simp [this]
   · simp [Builtin.delete_, hT, run_underlying hum, MapKept.run_getObj_map h1, chk_run hk hka _ hy, q4, MapKept.run_setObj_map _ h1, Result.andThen]
 · subst q7
   refine fin (es.eraseIdxIfInBounds j) (by rw [q8]; exact rep_del h2 j) (h3.erase j) ?_ ?_
   · rw [q8, h5]; exact (unmet_del h2.1 hn q2).symm
   · simp [Builtin.delete_, hT, run_underlying hum, MapKept.run_getObj_map h1, chk_run hk hka _ hy, q6, MapKept.run_setObj_map _ h1, Result.andThen]
theorem gam_app {E M : List TE} {k : Nat} (h : k < E.length) : gam (E ++ M) k = gam E k := by
 unfold gam
 rw [List.getElem?_append_left h]
theorem atD_app {A : Type} : ∀ (ws vs : List (Nat → Option A)) (D : Nat → Bool) (i : Nat) (f : Nat → A), (∀ j, i + ws.length ≤ j → D j = false) → atD (ws ++ vs) D i f = atD ws D i f
 | [], vs, D, i, f, h => by
  induction vs generalizing i with
  | nil => rfl
  | cons w r ih =>
   have h0 : D i = false := h i (by simp)
   simp only [List.nil_append, atD, h0] at ih ⊢
   exact ih (i + 1) (fun j hj => h j (by simp at hj ⊢; omega))
 | w :: ws, vs, D, i, f, h => by
  simp only [List.cons_append, atD]
  exact atD_app ws vs D (i + 1) _ (fun j hj => h j (by simp at hj ⊢; omega))
theorem WSof_app {L : List Oper} {E M : List TE} (h : E.length ≤ L.length) : WSof L (E ++ M) = WSof L E ++ List.zipWith slW (L.drop E.length) M := by
 unfold WSof
 have hl : (L.take E.length).length = E.length := by rw [List.length_take]; omega
 have h1 : List.zipWith slW L (E ++ M) = List.zipWith slW (L.take E.length ++ L.drop E.length) (E ++ M) := by rw [List.take_append_drop]
 have h2 : List.zipWith slW L E = List.zipWith slW (L.take E.length ++ L.drop E.length) (E ++ []) := by rw [List.take_append_drop, List.append_nil]
 rw [h1, h2, List.zipWith_append hl, List.zipWith_append hl]
 simp
theorem AtI.app {c : Cf} {L : List Oper} {E : List TE} {sl0 : Nat → PA} {hp0 : Nat → HObj} {i : Nat} {rs : RS} (h : AtI c L E sl0 hp0 i rs) (hE : i = E.length) (hl : E.length ≤ L.length) (M : List TE) : AtI c L (E ++ M) sl0 hp0 i rs := {
 slf := by
  rw [h.slf, WSof_app hl, atD_app _ _ _ _ _ (fun j hj => by
   have : (WSof L E).length = E.length := by unfold WSof; rw [List.length_zipWith]; omega
   rw [this] at hj
   simp [lex]; omega)]
 hpf := by
  rw [h.hpf]
  show _ = atD (List.map hpW (E ++ M)) _ _ _
  rw [List.map_append, atD_app _ _ _ _ _ (fun j hj => by
   rw [List.length_map] at hj
   simp [lex]; omega)]
  rfl
 fresh := h.fresh
 gd := ⟨fun k p pp hl' => by
  obtain ⟨h1, ⟨o, e, d, g1, g2, g3, g4, g5⟩, h3⟩ := h.gd.all k p pp hl'
  exact ⟨h1, ⟨o, e, d, g1, by rw [List.getElem?_append_left (by omega)]; exact g2, g3, g4, g5⟩, h3⟩⟩
 pth := h.pth }
theorem AtI.gam {c : Cf} {L : List Oper} {E : List TE} {sl0 : Nat → PA} {hp0 : Nat → HObj} {i : Nat} {rs : RS} (h : AtI c L E sl0 hp0 i rs) (hE : i = E.length) (M : List TE) {path : Path} (hp : ∀ x ∈ path, ∃ q, lookN rs.gd x.1 = some q) : pathOK (Gv.gam (E ++ M)) path ↔ pathOK (Gv.gam E) path := by
 have key : ∀ x ∈ path, Gv.gam (E ++ M) x.1 = Gv.gam E x.1 := fun x hx => by
  obtain ⟨⟨p, pp⟩, hq⟩ := hp x hx
  exact gam_app (by have := (h.gd.all x.1 p pp hq).1; omega)
 exact ⟨fun hk x hx => by rw [← key x hx]; exact hk x hx, fun hk x hx => by rw [key x hx]; exact hk x hx⟩
theorem Holds.app {c : Cf} {L : List Oper} {E : List TE} {sl0 : Nat → PA} {hp0 : Nat → HObj} {i : Nat} {rs : RS} (h : AtI c L E sl0 hp0 i rs) (hE : i = E.length) (M : List TE) {C : Ctx} {β : Asg} {a : Act} {G : GW} (H : Holds C (Gv.gam E) ⟨rs.slf, rs.hpf⟩ β a G) : Holds C (Gv.gam (E ++ M)) ⟨rs.slf, rs.hpf⟩ β a G :=
 ⟨fun s => by
  have hs := H.slots s
  have hk := h.gam hE M (path := (rs.slf s).path) (h.pth s)
  exact ⟨fun hp => hs.1 (hk.1 hp), fun hp => hs.2 (fun hq => hp (hk.2 hq))⟩, H.size, H.defers, H.inv⟩
theorem want_seq {c : Cf} {L : List Oper} {E : List TE} {sl0 : Nat → PA} {hp0 : Nat → HObj} {i : Nat} {rs : RS} {ops : Array Oper} (hops : ops.toList = L) (hgd : gdB L L = true) {C : Ctx} (hN : C.N = c.N) (hrs : AtI c L E sl0 hp0 i rs) (hdsts : ∀ j o, j < i → L[j]? = some o → dstOK o.dst c.N = true)
    {o : Oper} (ho : L[i]? = some o) {path : Path} (hpa : pathOf rs.gd o = some path) {β : Asg} {a : Act} {G : GW} (hI : Holds C (Gv.gam E) ⟨rs.slf, rs.hpf⟩ β a G) :
    (Region.wanted o (yielded ops a.tmps) = true ∧ pathOK (Gv.gam E) path) ∨ (Region.wanted o (yielded ops a.tmps) = false ∧ ¬ pathOK (Gv.gam E) path) := by
 unfold pathOf at hpa
 split at hpa
 · rename_i hno
   simp only [Option.some.injEq] at hpa
   refine .inl ⟨by unfold Region.wanted; rw [hno], ?_⟩
   rw [← hpa]; intro x hx; cases hx
 · rename_i g w hgw
   split at hpa
   · rename_i p pp hl
     simp only [Option.some.injEq] at hpa
     obtain ⟨g1, ⟨og, eg, d, g2, g3, g4, g5, g6⟩, _⟩ := hrs.gd.all g p pp hl
     have hone := gdB_spec hgd o (List.mem_of_getElem? ho)
     have hu : uniqB d g L 0 = true := by
      unfold gdOne at hone
      rw [Bool.and_eq_true] at hone
      have h1' := hone.1
      rw [hgw] at h1'
      dsimp only at h1'
      rw [g2] at h1'
      dsimp only at h1'
      rw [g6] at h1'
      exact h1'
     have hcont := uniq_content (sl0 := sl0) g2 g3 g6 (fun j' o' h1 h2 => by have := uniqB_spec hu j' o' h1 h2; omega) g1
     have hslot := hI.slots d
     have hsd : rs.slf d = ⟨pp, eg.ap⟩ := by rw [hrs.slf, hcont, g4]
     dsimp only at hslot
     rw [hsd] at hslot
     have hog : ops[g]? = some og := by rw [← Array.getElem?_toList, hops]; exact g2
     have hdg := hdsts g og g1 g2
     have hdlt : d < a.tmps.size := by
      rw [hI.size, hN]
      rw [g6] at hdg
      exact Nat.le_of_ble_eq_true hdg
     have hty : a.tmps[d]? = some (a.tmps.getD d undef) := by
      rw [Array.getD_eq_getD_getElem?, Array.getElem?_eq_getElem hdlt]; rfl
     have hgam := hrs.gd.gam hl
     by_cases hpok : pathOK (Gv.gam E) pp
     · obtain ⟨bb, hbb, hiff⟩ := prop_val (propOf_sat g5 (hslot.1 hpok))
       have hγ : Gv.gam E g = bb := by
        have : Gv.gam E g = true ↔ bb = true := by rw [hgam, hiff]
        cases h1 : Gv.gam E g <;> cases h2 : bb <;> simp_all
       have hyl : yielded ops a.tmps g = some bb := by
        unfold yielded
        rw [hog]
        show (match (og.dst).bind (a.tmps[·]?) with | some (.bool b) => some b | _ => none) = some bb
        rw [g6]
        show (match a.tmps[d]? with | some (.bool b) => some b | _ => none) = some bb
        rw [hty, hbb]
       unfold Region.wanted
       rw [hgw]
       dsimp only
       rw [hyl, ← hpa]
       by_cases hbw : bb = w
       · refine .inl ⟨by simp [hbw], fun x hx => ?_⟩
         rcases List.mem_cons.1 hx with rfl | hx
         · exact hγ.trans hbw
         · exact hpok x hx
       · refine .inr ⟨by simp [hbw], fun h => hbw ?_⟩
         have := h (g, w) List.mem_cons_self
         exact hγ.symm.trans this
     · have hv := hslot.2 hpok
       have hyl : yielded ops a.tmps g = none := by
        unfold yielded
        rw [hog]
        show (match (og.dst).bind (a.tmps[·]?) with | some (.bool b) => some b | _ => none) = none
        rw [g6]
        show (match a.tmps[d]? with | some (.bool b) => some b | _ => none) = none
        rw [hty, hv]; rfl
       unfold Region.wanted
       rw [hgw]
       dsimp only
       rw [hyl, ← hpa]
       exact .inr ⟨by simp, fun h => hpok (fun x hx => h x (List.mem_cons_of_mem _ hx))⟩
   · cases hpa
theorem Holds.nextP {C : Ctx} {γ : Nat → Bool} {rs : RS} {β β' : Asg} {a : Act} {G G' : GW} (H : Holds C γ ⟨rs.slf, rs.hpf⟩ β a G) (i : Nat) (o : Oper) (e : TE) (vc : List Prop) (v : Value) (hd : dstOK o.dst C.N = true) (hb : β.le β') (hg : G.le G') (hv : satP γ ⟨e.path, e.ap⟩ β' G' v) (hi : HInv C (hset rs.hpf e.hw) β' G') :
    Holds C γ ⟨(Gv.nextP i o.dst e.path e.ap e.hw e.k e.ns vc rs).slf, (Gv.nextP i o.dst e.path e.ap e.hw e.k e.ns vc rs).hpf⟩ β' (a.put o.dst v) G' := by
 have hst : (St.hset (St.put ⟨rs.slf, rs.hpf⟩ o.dst ⟨e.path, e.ap⟩) e.hw) = ⟨(Gv.nextP i o.dst e.path e.ap e.hw e.k e.ns vc rs).slf, (Gv.nextP i o.dst e.path e.ap e.hw e.k e.ns vc rs).hpf⟩ := by
  unfold St.put St.hset
  dsimp only
  congr 1
  · funext s
    rw [nextP_slf]
    unfold slW
    cases o.dst with
    | none => rfl
    | some d =>
     dsimp only
     by_cases h : s = d
     · rw [if_pos h, if_pos h]; rfl
     · rw [if_neg h, if_neg h]; rfl
  · funext h
    rw [nextP_hpf, hset_look]; rfl
 rw [← hst]
 exact H.next o.dst v ⟨e.path, e.ap⟩ e.hw hd hb hg hv hi
theorem yield_exec {P : Program} {o : Oper} {f : Operand} (ho : calleeOf o.op = some f) {ρ : Operand → Value} {l : Nat} (hρ : ρ f = .func (.yield l) #[] #[]) {w : World} {n : Next} (hy : (Instr.yield l ((opnds o.op).map ρ).toArray).run P w = .ok n w) :
    (execOp ρ o).run P w = .ok n w := by
 obtain ⟨dst, op, type, pos, after, guard⟩ := o
 dsimp only at ho ⊢
 unfold calleeOf at ho
 split at ho
 · rename_i f' args ats
   simp only [Option.some.injEq] at ho; subst ho
   have e : (args.toList.map ρ).toArray = args.map ρ := by
    apply Array.ext'
    simp only [Array.toList_map]
   have e2 : ((opnds (Op.call { callee := .value f', args := args, argTypes := ats })).map ρ).toArray = args.map ρ := e
   rw [e2] at hy
   simp [execOp, resolve, Deferred.ofValue, hρ, invoke, hy]
 · cases ho
theorem argsT_satD {hp : Nat → HObj} {β : Asg} {G : GW} (H : HeapSat hp β G) : ∀ {ts : List Ty} {args : List AP} {y : TDat ts} {vals : List Value}, argsT hp ts args = some y → satT (listA args) β G vals → satD ts y G vals
 | [], [], y, vals, h, hs => by unfold listA satT at hs; exact hs
 | [], _ :: _, y, vals, h, hs => by simp [argsT] at h
 | _ :: _, [], y, vals, h, hs => by simp [argsT] at h
 | t :: r, X :: l, y, vals, h, hs => by
  unfold argsT at h
  split at h
  · rename_i x hx
    split at h
    · rename_i z hz
      simp only [Option.some.injEq] at h; subst h
      unfold listA satT at hs
      obtain ⟨v, l', rfl, h1, h2⟩ := hs
      exact ⟨v, l', rfl, toDat_rep H hx h1, argsT_satD H hz h2⟩
    · cases h
  · cases h
theorem HInv.fed {C : Ctx} {hp : Nat → HObj} {β : Asg} {G G' : GW} (H : HInv C hp β G) {h : Nat} {v : Value} {ts : List Ty} {ys ys' : List (TDat ts)} {E E' : Eater} {D : Eater → Prop} (hh : hp h = .ob (.log ts) (ys, E, D)) (hv : β h = some v)
    (hs : Step E.F E.Fo G G') (ho : OldOK G') (hj : E'.J v G') (hF : ∀ b o, E'.F b o → (E.F b o ∨ G.w.heap.size ≤ b) ∧ ¬ G'.im b o ∧ b < G'.w.heap.size) (hFo : ∀ b, E'.Fo b → (E.Fo b ∨ G.w.heap.size ≤ b) ∧ ¬ G'.imo b ∧ b < G'.w.heap.size) :
    HInv C (hset hp [(h, .ob (.log ts) (ys', E', D))]) β G' := by
 have e1 : ∀ b o, fpc (hp h) v b o ↔ E.F b o := fun b o => by rw [hh]; exact Iff.rfl
 have e2 : ∀ b, fpo (hp h) v b ↔ E.Fo b := fun b => by rw [hh]; exact Iff.rfl
 refine ⟨H.heap.gen (fun n => n = h) hs (Asg.le_refl β) (fun n hne => ⟨by simp [hset, hne], rfl⟩) (fun b o hf => ⟨h, v, rfl, hv, (e1 b o).2 hf⟩) (fun b hf => ⟨h, v, rfl, hv, (e2 b).2 hf⟩)
     (fun n e hno => (by subst e; simp [hset] at hno)) (fun n e _ => (by subst e; refine ⟨v, hv, ?_⟩; simp only [hset, if_true]; exact hj)) ?_ ?_
     (fun n n' _ _ e e' hne => (hne (e.trans e'.symm)).elim) (fun n n' _ _ e e' hne => (hne (e.trans e'.symm)).elim) ho.old ho.oldo, ?_, ?_, ?_, ?_⟩
 · intro n u e hu b i hf
   subst e
   rw [hv] at hu; cases hu
   simp only [hset, if_true] at hf
   obtain ⟨k1, k2, k3⟩ := hF b i hf
   exact ⟨k1.elim (fun k => .inl ⟨n, v, rfl, hv, (e1 b i).2 k⟩) .inr, k2, k3⟩
 · intro n u e hu b hf
   subst e
   rw [hv] at hu; cases hu
   simp only [hset, if_true] at hf
   obtain ⟨k1, k2, k3⟩ := hFo b hf
   exact ⟨k1.elim (fun k => .inl ⟨n, v, rfl, hv, (e2 b).2 k⟩) .inr, k2, k3⟩
 · exact H.step.trans hs (fun b o hf => H.own h v hv b o ((e1 b o).2 hf)) (fun b hf => H.owno h v hv b ((e2 b).2 hf))
 · intro n u hu b i hf
   by_cases e : n = h
   · subst e
     rw [hv] at hu; cases hu
     simp only [hset, if_true] at hf
     rcases (hF b i hf).1 with k | k
     · exact H.own n v hv b i ((e1 b i).2 k)
     · exact .inr (Nat.le_trans H.step.size k)
   · simp [hset, e] at hf
     exact H.own n u hu b i hf
 · intro n u hu b hf
   by_cases e : n = h
   · subst e
     rw [hv] at hu; cases hu
     simp only [hset, if_true] at hf
     rcases (hFo b hf).1 with k | k
     · exact H.owno n v hv b ((e2 b).2 k)
     · exact .inr (Nat.le_trans H.step.size k)
   · simp [hset, e] at hf
     exact H.owno n u hu b hf
 · exact fun g t x hx => (H.glob g t x hx).mono hs.le
theorem view_run {P : Program} {C : Ctx} {hp : Nat → HObj} {β : Asg} {G : GW} (H : HInv C hp β G) {h : Nat} {t : Ty} {xs : List (Dat t)} (hh : hp h = .row t xs) {u : Value} (hu : β h = some u) {T e : TypeId} (hue : P.underlying T = some (.slice e)) (hte : tym P t e = true) {k : IntKind} {n : Int} (h0 : 0 ≤ n) (h1 : n < (xs.length : Int)) :
    ∃ w, (Instr.sliceAt T u (some (.int k n)) none none).run P G.w = .ok w G.w ∧ sat (.vw h (Int.toNat n) t.size) β G w := by
 obtain ⟨u', hu', hsat⟩ := H.heap.sat h (by rw [hh]; simp)
 rw [hu] at hu'; cases hu'
 rw [hh] at hsat
 obtain ⟨base, cap, rfl, c1, c2, c3, c4⟩ := hsat
 cases base with
 | none => have := c3 rfl; omega
 | some a =>
  have hsp := (c4 a rfl).1 (by omega)
  obtain ⟨m, rfl⟩ : ∃ m : Nat, n = (m : Int) := ⟨n.toNat, (Int.toNat_of_nonneg h0).symm⟩
  have hm : m < xs.length := by omega
  refine ⟨.slice (some ⟨a.block, a.off + m * t.size, none⟩) (xs.length - m) (cap - m), ?_, ?_⟩
  · have hcm : ¬ cap = m := by omega
    simp [Instr.sliceAt, Instr.slice, Instr.sliceBounds, Instr.sliceBound, asIntOf, underlying, hue, tym_size hte, addr_add a hsp, hcm, show m ≤ xs.length by omega]
  · unfold sat
    exact ⟨a, xs.length, cap, hu, hsp, by simpa using hm, by simp⟩
theorem zeros_at {z : Array Value} {n : Nat} {i j : Nat} (hi : i < n) (hj : j < z.size) : (Builtin.zeroCells z n).toList[i * z.size + j]? = z.toList[j]? := by
 have hlt : i * z.size + j < n * z.size := by
  have := Nat.mul_le_mul_right z.size (show i + 1 ≤ n from hi)
  rw [Nat.succ_mul] at this; omega
 unfold Builtin.zeroCells
 rw [Array.getElem?_toList, Array.getElem?_map, Array.getElem?_range, if_pos hlt]
 have : (i * z.size + j) % z.size = j := by rw [Nat.mul_comm, Nat.mul_add_mod]; exact Nat.mod_eq_of_lt hj
 simp [this, hj]
theorem clear_run {P : Program} {C : Ctx} {hp : Nat → HObj} {β : Asg} {G : GW} (H : HInv C hp β G) {h k : Nat} {t : Ty} {xs : List (Dat t)} (hh : hp h = .row t xs) {u : Value} (hu : sat (.vw h k t.size) β G u) {T e : TypeId} (hue : P.underlying T = some (.slice e)) (hte : tym P t e = true) (hpos : t.size ≠ 0) (cats : Array TypeId) (hT : cats[0]? = some T) (ty : TypeId) :
    ∃ G', (Builtin.clear_ cats ty #[u]).run P G.w = .ok (.tuple #[]) G'.w ∧ HInv C (hset hp [(h, .row t (xs.take k ++ List.replicate (xs.length - k) (dflt t)))]) β G' ∧ G.le G' := by
 unfold sat at hu
 obtain ⟨a, len, cap, hb, hsp, hkl, rfl⟩ := hu
 obtain ⟨u', hu', hsat⟩ := H.heap.sat h (by rw [hh]; simp)
 rw [hb] at hu'; cases hu'
 rw [hh] at hsat
 obtain ⟨base, cap', e', c1, c2, c3, c4⟩ := hsat
 simp only [Value.slice.injEq] at e'
 obtain ⟨rfl, rfl, rfl⟩ := e'
 obtain ⟨_, hfree, hel⟩ := c4 a rfl
 obtain ⟨z, hz, hz2, hz3⟩ := tym_zero hte G.w
 have hzs : z.cells.size = t.size := by rw [← Array.length_toList, hz2]; exact Rep.length t (Rep.zero t G)
 obtain ⟨L, hL⟩ : ∃ L, L = (Builtin.zeroCells z.cells (xs.length - k)).toList := ⟨_, rfl⟩
 have hLl : L.length = (xs.length - k) * t.size := by rw [hL]; simp [size_zeroCells, hzs]
 have hk : k < xs.length := hkl
 have hmul : k * t.size + (xs.length - k) * t.size = xs.length * t.size := by rw [← Nat.add_mul]; congr 1; omega
 have hcap : xs.length * t.size ≤ cap * t.size := Nat.mul_le_mul_right _ c1
 have hlp : 0 < (xs.length - k) * t.size := Nat.mul_pos (by omega) (by omega)
 have hz1 : ∀ v ∈ L, v.oneCell' = true := fun v hv => by
  rw [hL] at hv
  unfold Builtin.zeroCells at hv
  simp only [Array.toList_map, List.mem_map] at hv
  obtain ⟨i, hi, rfl⟩ := hv
  have hm : i % z.cells.size < z.cells.size := Nat.mod_lt _ (by rw [hzs]; omega)
  rw [getElem!_pos z.cells (i % z.cells.size) hm]
  exact Rep.one t (Rep.zero t G) _ (by rw [← hz2]; simp)
 obtain ⟨w', hr, hwr, hwc⟩ := storeCells_run (P := P) ⟨a.block, a.off + k * t.size, none⟩ rfl L 0 G.w (fun j hj => by
  have := hfree (k * t.size + j) (by omega)
  rw [Nat.add_zero]
  rwa [← Nat.add_assoc] at this) hz1
 rw [Nat.add_zero, hLl] at hwr
 have hst : Step (fpc (hp h) (.slice (some a) xs.length cap)) (fpo (hp h) (.slice (some a) xs.length cap)) G { G with w := w' } :=
  Wrote.step H.heap hb hwr hlp (fun i h1 h2 => by rw [hh]; exact ⟨rfl, by dsimp only at h1; omega, by dsimp only at h2; omega⟩) _
 have hlen : (xs.take k ++ List.replicate (xs.length - k) (dflt t)).length = xs.length := by simp; omega
 refine ⟨{ G with w := w' }, ?_, H.write h _ _ hb (by simp) rfl rfl hst ?_ (fun b i hf => by rw [hh]; exact hf) (fun b hf => by cases hf), hst.le⟩
 · obtain ⟨n, hn⟩ : ∃ n, xs.length - k = n + 1 := ⟨xs.length - k - 1, by omega⟩
   rw [hL, hn] at hr
   simp [Builtin.clear_, hT, run_underlying hue, hn, hz, hr, Result.andThen]
 · refine ⟨some a, cap, by rw [hlen], by rw [hlen]; exact c1, c2, fun h => (by cases h), fun a' ha' => ?_⟩
   cases ha'
   refine ⟨fun _ => hsp, fun j hj => ?_, fun i x hx => ?_⟩
   · obtain ⟨⟨v, hv⟩, hf⟩ := hfree j hj
     refine ⟨?_, by show w'.frozen? _ = false; rw [hwr.frz]; exact hf⟩
     show ∃ v, w'.cell? ⟨a.block, a.off + j, none⟩ = some v
     by_cases hin : k * t.size ≤ j ∧ j < xs.length * t.size
     · obtain ⟨y, hy⟩ : ∃ y, L[j - k * t.size]? = some y := ⟨L[j - k * t.size]'(by rw [hLl]; omega), List.getElem?_eq_getElem _⟩
       refine ⟨y, ?_⟩
       have := hwc _ _ hy
       rwa [Nat.add_zero, show a.off + k * t.size + (j - k * t.size) = a.off + j by omega] at this
     · exact ⟨v, by rw [hwr.cell _ _ (fun ⟨_, e1, e2⟩ => hin ⟨by dsimp only at e1; omega, by dsimp only at e2; omega⟩)]; exact hv⟩
   · by_cases hi : i < k
     · rw [List.getElem?_append_left (by simp; omega), List.getElem?_take_of_lt hi] at hx
       obtain ⟨cells, h1, h2⟩ := hel i x hx
       refine ⟨cells, fun j v hv => ?_, Rep.mono t h2 hst.le⟩
       have hj : j < t.size := by rw [← Rep.length t h2]; exact (List.getElem?_eq_some_iff.1 hv).1
       show w'.cell? _ = _
       rw [hwr.cell _ _ (fun ⟨_, e1, _⟩ => by
        have := Nat.mul_le_mul_right t.size (show i + 1 ≤ k from hi)
        rw [Nat.succ_mul] at this
        dsimp only at e1; omega)]
       exact h1 j v hv
     · rw [List.getElem?_append_right (by simp; omega)] at hx
       simp only [List.length_take, Nat.min_eq_left (Nat.le_of_lt hk)] at hx
       rw [List.getElem?_replicate] at hx
       split at hx
       · rename_i hil
         simp only [Option.some.injEq] at hx; subst hx
         refine ⟨zeroCells t, fun j v hv => ?_, Rep.zero t _⟩
         have hj : j < t.size := by rw [← Rep.length t (Rep.zero t G)]; exact (List.getElem?_eq_some_iff.1 hv).1
         have hLj : L[(i - k) * t.size + j]? = some v := by
          rw [hL]
          have := zeros_at (z := z.cells) (n := xs.length - k) (i := i - k) (j := j) hil (by rw [hzs]; exact hj)
          rw [hzs] at this
          rw [this, hz2]; exact hv
         have := hwc _ _ hLj
         rw [Nat.add_zero] at this
         show w'.cell? ⟨a.block, a.off + i * t.size + j, none⟩ = some v
         have hik : k * t.size + (i - k) * t.size = i * t.size := by rw [← Nat.add_mul]; congr 1; omega
         rwa [show a.off + k * t.size + ((i - k) * t.size + j) = a.off + i * t.size + j by omega] at this
       · cases hx
theorem rdyB_spec {fd : Option Nat} {X : AP} {h r : Nat} (hx : rdyB fd X = some (h, r)) : X = .val (.pointer (some ⟨r, 0, none⟩)) ∧ fd = some h := by
 unfold rdyB at hx
 split at hx
 · split at hx
   · simp only [Option.some.injEq, Prod.mk.injEq] at hx
     obtain ⟨rfl, rfl⟩ := hx
     exact ⟨rfl, rfl⟩
   · cases hx
 · cases hx
theorem dyn_good {P : Program} {c : Cf} (hE : c.E.ok P = true) (hL : LateOK P c) {C : Ctx} (hg : GlobIs C c) {r : Option Nat} {γ : Nat → Bool} {rs : RS} (hfr : ∀ n, rs.nx ≤ n → rs.hpf n = .none) {path : Path} {o : Oper} {D : Dyn} {fd : Option Nat} (hD : dynA c fd rs.slf rs.hpf rs.nx path o = some D) {β : Asg} {a : Act} {G : GW} (hI : Holds C γ ⟨rs.slf, rs.hpf⟩ β a G) (hp : pathOK γ path) (hvc : ∀ p ∈ D.vc, p) {Q : Exit → Act → World → Prop} {K : Act → World → Prop}
    (hK : ∀ x, D.ok x → ∀ v β' G', HInv C (hset rs.hpf (D.W x).hw) β' G' → β.le β' → G.le G' → sat (D.W x).ap β' G' v → K (a.put o.dst v) G'.w) : o.wpIn (WF r) 0 P a G.w K Q := by
 unfold dynA at hD
 have hargs : satT (listA ((opnds o.op).map (opA c.gl rs.slf path))) β G ((opnds o.op).map a.eval) := satT_map _ fun x hx => opA_sat hg.eq hI hp x fun _ _ => rfl
 split at hD
 · rename_i f hcal
   have hsf := opA_sat hg.eq hI hp f (fun _ _ => rfl)
   split at hD
   · rename_i g caps hop
     rw [hop] at hsf
     unfold sat at hsf
     obtain ⟨cv, hcv, hcs⟩ := hsf
     split at hD
     · rename_i l S Ss hl hSs
       obtain ⟨hSg, hSn⟩ := hL.L g S (by rw [hSs]; exact List.mem_cons_self)
       obtain ⟨fn, hf, hb, hnm⟩ := hSg.1
       have hargs2 : satT (listA ((opnds o.op).map (opA c.gl rs.slf path) ++ l)) β G ((opnds o.op).map a.eval ++ cv) := satT_append hargs (by rw [unlistA_spec hl]; exact hcs)
       have hcalls := callL_run hSg hD hvc hI.inv hfr hg.eq (fun h => hg.nz (hSn h)) hargs2
       refine ⟨fun _ _ => trivial, ?_⟩
       rw [semAt_nd (fun c hc => by rw [hc] at hcal; cases hcal), call_exec hf hb hnm hcal hcv]
       have e : ((opnds o.op).map a.eval).toArray ++ cv.toArray = ((opnds o.op).map a.eval ++ cv).toArray := by simp
       rw [e]
       refine ⟨fun h => (by cases h), CallsIn.mono (callsIn_wide.2 hcalls : CallsIn Fence.wide 0 P g _ G.w _) fun en w' hr => ?_⟩
       cases en with
       | panicked _ => exact hr.elim
       | outgrown => exact hr.elim
       | returned v =>
        obtain ⟨x, hx, β1, G1, rfl, H1, hb1, hg1, hs1⟩ := hr
        exact hK x hx v β1 G1 H1 hb1 hg1 hs1
     · cases hD
   · rename_i h hop
     rw [hop] at hsf
     unfold sat at hsf
     unfold feedA at hD
     split at hD
     · rename_i ts ys E Dn hh
       split at hD
       · rename_i y hy
         simp only [Option.some.injEq] at hD; subst hD
         obtain ⟨hhd, heat⟩ := hvc _ (List.mem_singleton.2 rfl)
         have heq := hL.eat _ _ _ _ heat
         obtain ⟨r', hr'⟩ : ∃ r', ys = y :: r' := by
          cases ys with
          | nil => cases hhd
          | cons a l => simp at hhd; subst hhd; exact ⟨l, rfl⟩
         subst hr'
         rw [heq] at heat
         obtain ⟨u, hu, hj⟩ := hI.inv.heap.sat h (by show rs.hpf h ≠ .none; rw [hh]; simp)
         rw [hsf.1] at hu; cases hu
         have hj : satH (rs.hpf h) (a.eval f) β G := hj
         rw [hh] at hj
         have hj : E.J (a.eval f) G := hj
         obtain ⟨L, fn, tmps, assign, body, hv, hrun, hround⟩ := heat (a.eval f) G _ hj hI.inv.heap.o (argsT_satD hI.inv.hs hy hargs)
         refine ⟨fun _ _ => trivial, ?_⟩
         rw [semAt_nd (fun c hc => by rw [hc] at hcal; cases hcal), yield_exec hcal hv hrun]
         rw [Oper.uponIn_round]
         refine ⟨fun h => (by cases h), RoundIn.mono (show RoundIn (WF r) 0 P L fn tmps assign body G.w _ from hround) fun e w' hr => ?_⟩
         obtain ⟨q, E', G', rfl, rfl, hst, hold, hj', hF, hFo, hq⟩ := hr
         refine hK (q, E') ?_ (.bool q) β G' ?_ (Asg.le_refl β) hst.le ?_
         · show c.eat ts Dn (if q = true then r' else []) E'
           rw [heq]
           cases q with
           | true => exact hq
           | false => exact hq
         · exact hI.inv.fed hh hsf.1 hst hold hj' hF hFo
         · unfold sat
           cases q with
           | true => exact ⟨fun _ => rfl, fun h => (h rfl).elim⟩
           | false => exact ⟨fun h => (by cases h), fun _ => rfl⟩
       · cases hD
     · cases hD
   · cases hD
 · split at hD
   · rename_i x hopn
     split at hD
     · rename_i h hop
       split at hD
       · rename_i k v y hh
         simp only [Option.some.injEq] at hD; subst hD
         have hs := opA_sat hg.eq hI hp x (fun _ _ => rfl)
         rw [hop] at hs
         unfold sat at hs
         obtain ⟨i, hi, w, G', h1, h2, h3, h4, h5⟩ := next_run (P := P) hI.inv hh hs.1 o.type
         refine ⟨fun _ _ => trivial, ?_⟩
         rw [semAt_nd (fun c hc => by rw [hopn] at hc; cases hc)]
         have hrun : (execOp a.eval o).run P G.w = .ok (.value w) G'.w := by
          obtain ⟨dst, op, type, pos, after, guard⟩ := o
          dsimp only at hopn h1
          subst hopn
          show (do Pure.pure (Next.value (← Instr.next (a.eval x) false type)) : Sem Next).run P G.w = _
          simp [h1]
         rw [hrun]
         exact hK i hi w β G' h2 (Asg.le_refl β) h3 (by unfold sat; exact ⟨h4, h5⟩)
       · cases hD
     · -- next
       rename_i hnr
       unfold nextW at hD
       split at hD
       · rename_i h r hrd
         obtain ⟨hx, _⟩ := rdyB_spec hrd
         split at hD
         · rename_i k v m left x0 q r' hh
           simp only [Option.some.injEq] at hD; subst hD
           have hr' : r' = r := hvc _ (List.mem_singleton.2 rfl)
           subst hr'
           have hs := opA_sat hg.eq hI hp x (fun _ _ => rfl)
           rw [hx] at hs
           unfold sat at hs
           obtain ⟨i, hi, w, G', h1, h2, h3, h4, h5⟩ := nextW_run (P := P) hI.inv hh o.type
           refine ⟨fun _ _ => trivial, ?_⟩
           rw [semAt_nd (fun c hc => by rw [hopn] at hc; cases hc)]
           have hrun : (execOp a.eval o).run P G.w = .ok (.value w) G'.w := by
            obtain ⟨dst, op, type, pos, after, guard⟩ := o
            dsimp only at hopn h1
            subst hopn
            show (do Pure.pure (Next.value (← Instr.next (a.eval x) false type)) : Sem Next).run P G.w = _
            rw [hs]
            simp [h1]
           rw [hrun]
           exact hK i hi w β G' h2 (Asg.le_refl β) h3 (by unfold sat; exact ⟨h4, h5⟩)
         · cases hD
       · cases hD
   · -- range
     rename_i T x hopn
     unfold rangeW at hD
     split at hD
     · rename_i d hdst
       split at hD
       · rename_i h hlv hop
         split at hD
         · rename_i k v m k' v' nb hh ht
           split at hD
           · rename_i hk hv
             have hk := of_decide_eq_true hk
             have hv := of_decide_eq_true hv
             subst hk; subst hv
             simp only [Option.some.injEq] at hD; subst hD
             obtain ⟨ka, vb, hum, _, _⟩ := und_mp (Env.ty_ok hE ht).1
             have hs := opA_sat hg.eq hI hp x (fun _ _ => rfl)
             rw [hop] at hs
             unfold sat at hs
             obtain ⟨G', h1, h2, h3⟩ := rangeW_run (P := P) hI.inv hh hs.1 hum (dflt k, dflt v)
             refine ⟨fun _ _ => trivial, ?_⟩
             rw [semAt_nd (fun c hc => by rw [hopn] at hc; cases hc)]
             have hrun : (execOp a.eval o).run P G.w = .ok (.value (.pointer (some ⟨G.w.heap.size, 0, none⟩))) G'.w := by
              obtain ⟨dst, op, type, pos, after, guard⟩ := o
              dsimp only at hopn h1
              subst hopn
              show (do Pure.pure (Next.value (← Instr.range T (a.eval x))) : Sem Next).run P G.w = _
              simp [h1]
             rw [hrun]
             exact hK G.w.heap.size trivial _ β G' h2 (Asg.le_refl β) h3 (by unfold sat; rfl)
           · cases hD
         · cases hD
       · cases hD
     · cases hD
   · -- entry
     rename_i x hopn
     unfold entryW at hD
     split at hD
     · rename_i h r hrd
       obtain ⟨hx, _⟩ := rdyB_spec hrd
       split at hD
       · rename_i k v m left x0 q r' hh
         simp only [Option.some.injEq] at hD; subst hD
         have hr' : r' = r := hvc _ (by simp)
         have hq : q := hvc _ (by simp)
         subst hr'
         have hs := opA_sat hg.eq hI hp x (fun _ _ => rfl)
         rw [hx] at hs
         unfold sat at hs
         obtain ⟨w, h1, h2⟩ := entryW_run (P := P) hI.inv hh hq
         refine ⟨fun _ _ => trivial, ?_⟩
         rw [semAt_nd (fun c hc => by rw [hopn] at hc; cases hc)]
         have hrun : (execOp a.eval o).run P G.w = .ok (.value w) G.w := by
          obtain ⟨dst, op, type, pos, after, guard⟩ := o
          dsimp only at hopn h1
          subst hopn
          show (do Pure.pure (Next.value (← Instr.entry (a.eval x))) : Sem Next).run P G.w = _
          rw [hs]
          simp [h1]
         rw [hrun]
         exact hK () trivial w β G hI.inv (Asg.le_refl β) G.le_refl h2
       · cases hD
     · cases hD
   · -- delete
     rename_i cl hopn
     split at hD
     · rename_i T hcl hT
       unfold delW at hD
       split at hD
       · rename_i h Y hargs2
         split at hD
         · rename_i k v m left x0 q r k' v' nb hh ht
           split at hD
           · rename_i y hk hv hkt hy
             have hk := of_decide_eq_true hk
             have hv := of_decide_eq_true hv
             subst hk; subst hv
             simp only [Option.some.injEq] at hD; subst hD
             have hnd : (m.map Prod.fst).Nodup := hvc _ (List.mem_singleton.2 rfl)
             obtain ⟨ka, vb, hum, hka, _⟩ := und_mp (Env.ty_ok hE ht).1
             obtain ⟨dst, op, type, pos, after, guard⟩ := o
             dsimp only at hopn
             subst hopn
             obtain ⟨callee, cargs, cats⟩ := cl
             dsimp only at hcl hT hargs2
             subst hcl
             obtain ⟨a0, a1, hca, e0, e1⟩ : ∃ a0 a1, cargs = #[a0, a1] ∧ opA c.gl rs.slf path a0 = .ref h ∧ opA c.gl rs.slf path a1 = Y := by
              match hc : cargs.toList with
              | [] => rw [hc] at hargs2; simp at hargs2
              | [_] => rw [hc] at hargs2; simp at hargs2
              | [a0, a1] =>
               rw [hc] at hargs2
               simp only [List.map_cons, List.map_nil, List.cons.injEq, and_true] at hargs2
               exact ⟨a0, a1, by rw [← Array.toArray_toList (xs := cargs), hc], hargs2.1, hargs2.2⟩
              | _ :: _ :: _ :: _ => rw [hc] at hargs2; simp at hargs2
             subst hca
             have hs0 := opA_sat hg.eq hI hp a0 (fun _ _ => rfl)
             rw [e0] at hs0
             unfold sat at hs0
             have hs1 := opA_sat hg.eq hI hp a1 (fun _ _ => rfl)
             rw [e1] at hs1
             have hyr := toDat_rep hI.inv.hs hy hs1
             obtain ⟨G', h1, h2, h3⟩ := delW_run (P := P) hI.inv hh hs0.1 hum hkt hka hyr hnd cats hT type
             refine ⟨fun _ _ => trivial, ?_⟩
             rw [semAt_nd (fun c hc => by cases hc)]
             have hrun : (execOp a.eval ⟨dst, .call ⟨.builtin .delete, #[a0, a1], cats⟩, type, pos, after, guard⟩).run P G.w = .ok (.value (.tuple #[])) G'.w := by
              simp [execOp, resolve, invoke, builtin, h1]
             rw [hrun]
             exact hK () trivial _ β G' h2 (Asg.le_refl β) h3 (by unfold sat; trivial)
           · cases hD
         · cases hD
       · cases hD
     · -- clear
       rename_i T hcl hT
       unfold clearW at hD
       split at hD
       · rename_i h k sz hargs2
         split at hD
         · rename_i u xs t nb hh ht
           split at hD
           · rename_i hd hsz
             have hd := of_decide_eq_true hd; subst hd
             have hsz := Nat.eq_of_beq_eq_true hsz; subst hsz
             simp only [Option.some.injEq] at hD; subst hD
             obtain ⟨e, hue, hte, hpos⟩ := und_sl (Env.ty_ok hE ht).1
             obtain ⟨dst, op, type, pos, after, guard⟩ := o
             dsimp only at hopn
             subst hopn
             obtain ⟨callee, cargs, cats⟩ := cl
             dsimp only at hcl hT hargs2
             subst hcl
             obtain ⟨a0, hca, e0⟩ : ∃ a0, cargs = #[a0] ∧ opA c.gl rs.slf path a0 = .vw h k u.size := by
              match hc : cargs.toList with
              | [] => rw [hc] at hargs2; simp at hargs2
              | [a0] =>
               rw [hc] at hargs2
               simp only [List.map_cons, List.map_nil, List.cons.injEq, and_true] at hargs2
               exact ⟨a0, by rw [← Array.toArray_toList (xs := cargs), hc], hargs2⟩
              | _ :: _ :: _ => rw [hc] at hargs2; simp at hargs2
             subst hca
             have hs0 := opA_sat hg.eq hI hp a0 (fun _ _ => rfl)
             rw [e0] at hs0
             obtain ⟨G', h1, h2, h3⟩ := clear_run (P := P) hI.inv hh hs0 hue hte hpos cats hT type
             refine ⟨fun _ _ => trivial, ?_⟩
             rw [semAt_nd (fun c hc => by cases hc)]
             have hrun : (execOp a.eval ⟨dst, .call ⟨.builtin .clear, #[a0], cats⟩, type, pos, after, guard⟩).run P G.w = .ok (.value (.tuple #[])) G'.w := by
              simp [execOp, resolve, invoke, builtin, h1]
             rw [hrun]
             exact hK () trivial _ β G' h2 (Asg.le_refl β) h3 (by unfold sat; trivial)
           · cases hD
         · cases hD
       · cases hD
     · cases hD
   · -- a part seen
     rename_i T x l hopn
     unfold viewW at hD
     split at hD
     · rename_i d hdst
       split at hD
       · rename_i h ik n hvw hop hopl
         split at hD
         · rename_i u xs t nb hh ht
           split at hD
           · rename_i hd
             have hd := of_decide_eq_true hd; subst hd
             simp only [Option.some.injEq] at hD; subst hD
             obtain ⟨e, hue, hte, hpos⟩ := und_sl (Env.ty_ok hE ht).1
             have h0 : 0 ≤ n := hvc _ (by simp)
             have h1 : n < (xs.length : Int) := hvc _ (by simp)
             have hs := opA_sat hg.eq hI hp x (fun _ _ => rfl)
             rw [hop] at hs
             unfold sat at hs
             have hsl := opA_sat hg.eq hI hp l (fun _ _ => rfl)
             rw [hopl] at hsl
             obtain ⟨hl, _⟩ := int_sat hsl
             obtain ⟨w, h2, h3⟩ := view_run (P := P) hI.inv hh hs.1 hue hte (k := ik) h0 h1
             refine ⟨fun _ _ => trivial, ?_⟩
             rw [semAt_nd (fun c hc => by rw [hopn] at hc; cases hc)]
             have hrun : (execOp a.eval o).run P G.w = .ok (.value w) G.w := by
              obtain ⟨dst, op, type, pos, after, guard⟩ := o
              dsimp only at hopn
              subst hopn
              show (do Pure.pure (Next.value (← Instr.sliceAt T (a.eval x) (some (a.eval l)) none none)) : Sem Next).run P G.w = _
              rw [hl]
              simp [h2]
             rw [hrun]
             exact hK () trivial w β G hI.inv (Asg.le_refl β) G.le_refl h3
           · cases hD
         · cases hD
       · cases hD
     · cases hD
   · cases hD
theorem region_seq {P : Program} {c : Cf} (hE : c.E.ok P = true) (hS : SpecsOK P c.gl c.F c.nz) (hL : LateOK P c) {C : Ctx} (hg : GlobIs C c) (hN : C.N = c.N) {ρ : Option Nat} {Q : Exit → Act → World → Prop} {L : List Oper} {sl0 : Nat → PA} {hp0 : Nat → HObj} {ops : Array Oper} (hops : ops.toList = L) (hgd : gdB L L = true) {y : Bool}
    {K : RS → Prop} (hKv : ∀ rsE, K rsE → ∀ p ∈ rsE.vc, p) {rs0 : RS} {a0 : Act} {β0 : Asg} {G0 : GW}
    (hQ : ∀ rsE E, K rsE → AtI c L E sl0 hp0 L.length rsE → E.length = L.length → rs0.nx ≤ rsE.nx → (∀ h, (h ∈ rs0.wr ∨ ∃ e ∈ E, h ∈ keysH e.hw) → h ∈ rsE.wr) → ∀ a' β' G', Holds C (gam E) ⟨rsE.slf, rsE.hpf⟩ β' a' G' → β0.le β' → G0.le G' → SameO L a0 a' → Q .normal a' G'.w) :
    ∀ (r : List Oper) (i : Nat) (rs : RS) (E : List TE), runOps c y L r i rs K → r = L.drop i → i = E.length → i ≤ L.length → AtI c L E sl0 hp0 i rs → (∀ j o, j < i → L[j]? = some o → dstOK o.dst c.N = true) → rs0.nx ≤ rs.nx → (∀ h, (h ∈ rs0.wr ∨ ∃ e ∈ E, h ∈ keysH e.hw) → h ∈ rs.wr) →
     ∀ (a : Act) (β : Asg) (G : GW), β0.le β → G0.le G → SameO L a0 a → Holds C (gam E) ⟨rs.slf, rs.hpf⟩ β a G → wpOpsIn (WF ρ) 0 P ops Q (List.range' i r.length) a G.w
 | [], i, rs, E, h, hr, hi, hil, hat, hdst, hnx, hwr, a, β, G, hb, hgl, hsm, hI => by
  have hlen : i = L.length := by have := congrArg List.length hr; simp at this; omega
  subst hlen
  exact hQ rs E h hat hi.symm hnx hwr a β G hI hb hgl hsm
 | o :: r, i, rs, E, h, hr, hi, hil, hat, hdst, hnx, hwr, a, β, G, hb, hgl, hsm, hI => by
  obtain ⟨ho, hr'⟩ := drop_cons hr
  have hlt : i < L.length := (List.getElem?_eq_some_iff.1 ho).1
  obtain ⟨path, hpa, hd, hcase⟩ := runOps_step hS h hKv
  have hdC : dstOK o.dst C.N = true := by rw [hN]; exact hd
  have hoi : ops[i]? = some o := by rw [← Array.getElem?_toList, hops]; exact ho
  have hwant := want_seq hops hgd hN hat hdst ho hpa hI
  have hdst' : ∀ j o', j < i + 1 → L[j]? = some o' → dstOK o'.dst c.N = true := fun j o' hj hjo => by
   by_cases e : j = i
   · subst e; rw [ho] at hjo; cases hjo; exact hd
   · exact hdst j o' (by omega) hjo
  -- the state behind the operation e, and on
  have go : ∀ (e : TE) (vc : List Prop), e.path = path → (∀ h ∈ keysH e.hw, h < rs.nx + e.k) → runOps c y L r (i + 1) (nextP i o.dst e.path e.ap e.hw e.k e.ns vc rs) K →
      ∀ v β' G', HInv C (hset rs.hpf e.hw) β' G' → β.le β' → G.le G' → satP (gam (E ++ [e])) ⟨e.path, e.ap⟩ β' G' v → wpOpsIn (WF ρ) 0 P ops Q (List.range' (i + 1) r.length) (a.put o.dst v) G'.w := fun e vc he hk hgo v β' G' h1 h2 h3 h4 => by
   have hat' := (hat.app hi (by omega) [e]).next ho (by rw [hi]; simp) (by rw [he]; exact hpa) hk vc
   refine region_seq hE hS hL hg hN hops hgd hKv hQ r (i + 1) _ (E ++ [e]) hgo hr' (by simp [hi]) hlt hat' hdst' ?_ ?_ _ β' G' (Asg.le_trans hb h2) (GW.le_trans hgl h3) (hsm.trans (SameO.put (List.mem_of_getElem? ho) a v (fun d hd' => by
       rw [hI.size]; rw [hd'] at hdC; exact Nat.le_of_ble_eq_true hdC))) ?_
   · exact Nat.le_trans hnx (Nat.le_add_right _ _)
   · intro h hh
     rw [show (nextP i o.dst e.path e.ap e.hw e.k e.ns vc rs).wr = keysR e.hw rs.wr from rfl, keysR_eq, List.mem_append]
     rcases hh with hh | ⟨e', he', hh⟩
     · exact .inr (hwr h (.inl hh))
     · rcases List.mem_append.1 he' with he' | he'
       · exact .inr (hwr h (.inr ⟨e', he', hh⟩))
       · rw [List.mem_singleton] at he'; subst he'; exact .inl hh
   · exact (hI.app hat hi [e]).nextP i o e vc v hdC h2 h3 h4 h1
  rw [List.length_cons, List.range'_succ, wpOpsIn_cons]
  unfold wpOpIn
  rw [hoi]
  dsimp only
  rcases hcase with ⟨e, vc, he, hw, hgo⟩ | ⟨D, hD, hp1, hp2⟩
  · subst he
    have hop : OpAt c L (E ++ [e]) sl0 hp0 i o e := ⟨rs, hat.app hi (by omega) [e], hpa, hd, hw⟩
    obtain ⟨hgood, hnil⟩ := opAt_good hE hS hg (Q := Q) hgd ho hop
    have hatE := hat.app hi (by omega) [e]
    rw [← hatE.slf, ← hatE.hpf] at hgood
    have hpk := hat.gam hi [e] (pathOf_in hat.gd hpa)
    rcases hwant with ⟨hw1, hpok⟩ | ⟨hw1, hpok⟩
    · rw [if_pos hw1]
      exact hgood ρ a β G _ _ (fun _ _ => rfl) (fun _ _ => rfl) (hI.app hat hi [e]) (hpk.2 hpok) _ fun v β' G' h1 h2 h3 h4 => go e vc rfl (went_keys hw) hgo v β' G' h1 h2 h3 ⟨fun _ => h4, fun h => (h (hpk.2 hpok)).elim⟩
    · rw [hw1]
      simp only [Bool.false_eq_true, if_false]
      have hn := hnil (fun h => hpok (hpk.1 h))
      exact ⟨fun _ _ => trivial, go e vc rfl (went_keys hw) hgo undef β G (by rw [hn]; exact hI.inv) (Asg.le_refl β) G.le_refl ⟨fun h => (hpok (hpk.1 h)).elim, fun _ => rfl⟩⟩
  · have hpp := hat.gd.path path (pathOf_in hat.gd hpa)
    rcases hwant with ⟨hw1, hpok⟩ | ⟨hw1, hpok⟩
    · rw [if_pos hw1]
      obtain ⟨hvc, hx⟩ := hp1 (hpp.2 hpok)
      have hD' : dynA c (wkN rs.hp) rs.slf rs.hpf rs.nx path o = some D := by
       unfold dynB at hD
       cases y with
       | true => exact hD
       | false => cases hD
      have hwp := dyn_good (P := P) hE hL hg (r := ρ) hat.fresh hD' hI hpok hvc (Q := Q) (K := fun a' w' => wpOpsIn (WF ρ) 0 P ops Q (List.range' (i + 1) r.length) a' w') (fun x hok v β' G' h1 h2 h3 h4 => by
       obtain ⟨hk, hgo⟩ := hx x hok
       have hpk := hat.gam hi [⟨path, (D.W x).ap, (D.W x).hw, D.ns, (D.W x).k⟩] (pathOf_in hat.gd hpa)
       exact go ⟨path, (D.W x).ap, (D.W x).hw, D.ns, (D.W x).k⟩ [] rfl (fun h hm => (keysOK_spec hk h hm).1) hgo v β' G' h1 h2 h3 ⟨fun _ => h4, fun h => (h (hpk.2 hpok)).elim⟩)
      exact hwp
    · rw [hw1]
      simp only [Bool.false_eq_true, if_false]
      have hpk := hat.gam hi [⟨path, .any, [], D.ns, 0⟩] (pathOf_in hat.gd hpa)
      exact ⟨fun _ _ => trivial, go ⟨path, .any, [], D.ns, 0⟩ [] rfl (fun h hm => by cases hm) (hp2 (fun h => hpok (hpp.1 h))) undef β G hI.inv (Asg.le_refl β) G.le_refl ⟨fun h => (hpok (hpk.1 h)).elim, fun _ => rfl⟩⟩
end Go.Gv

/- A region, from the generator's state to the generator's state. -/
namespace Go.Gv
open Go
structure Sim (C : Ctx) (rs : RS) (β : Asg) (a : Act) (G : GW) : Prop where
 holds : ∀ γ, Holds C γ ⟨rs.slf, rs.hpf⟩ β a G
 flat : ∀ s, (rs.slf s).path = []
 fresh : ∀ n, rs.nx ≤ n → rs.hpf n = .none
 gd : rs.gd = []
 vc : rs.vc = []
 tr : rs.tr = []
structure Ext (rs rs' : RS) : Prop where
 wr : ∀ h ∈ rs.wr, h ∈ rs'.wr
 hpf : ∀ h, h < rs.nx → h ∉ rs'.wr → rs'.hpf h = rs.hpf h
 nx : rs.nx ≤ rs'.nx
theorem Ext.refl (rs : RS) : Ext rs rs := ⟨fun _ h => h, fun _ _ _ => rfl, Nat.le_refl _⟩
theorem Ext.trans {a b c : RS} (h : Ext a b) (k : Ext b c) : Ext a c :=
 ⟨fun x hx => k.wr x (h.wr x hx), fun x hx hn => (k.hpf x (Nat.lt_of_lt_of_le hx h.nx) hn).trans (h.hpf x hx (fun hm => hn (k.wr x hm))), Nat.le_trans h.nx k.nx⟩
theorem atD_false {A : Type} : ∀ (r : List (Nat → Option A)) (i : Nat) (f : Nat → A), atD r (fun _ => false) i f = f
 | [], _, _ => rfl
 | _ :: r, i, f => atD_false r (i + 1) f
theorem lookN_cons {α : Type} (k : Nat) (v : α) (r : List (Nat × α)) (n : Nat) : lookN ((k, v) :: r) n = if n = k then some v else lookN r n := by
 simp only [lookN]
 by_cases h : n = k
 · subst h; simp
 · have : Nat.beq k n = false := by
    cases hb : Nat.beq k n with
    | false => rfl
    | true => exact (h (Nat.eq_of_beq_eq_true hb).symm).elim
   rw [this, if_neg h]
theorem memN_false {l : List Nat} {n : Nat} (h : memN l n = false) : n ∉ l := fun hm => by rw [memN_iff.2 hm] at h; cases h
theorem cleanF_spec {keep : List Nat} : ∀ (l : List (Nat × PA)) (seen : List Nat) (K : List (Nat × PA) → Prop), cleanF keep seen l K → ∃ l', K l' ∧ ∀ s p, lookN l' s = some p → s ∉ seen ∧ s ∈ keep ∧ p.path = [] ∧ lookN l s = some p
 | [], seen, K, h => ⟨[], h, fun s p h => by cases h⟩
 | (s0, ⟨pa, ap⟩) :: r, seen, K, h => by
  unfold cleanF at h
  cases h1 : memN seen s0 with
  | true =>
   rw [h1] at h
   obtain ⟨l', hK, hl⟩ := cleanF_spec r seen K h
   refine ⟨l', hK, fun s p hs => ?_⟩
   obtain ⟨g1, g2, g3, g4⟩ := hl s p hs
   have hne : ¬ s = s0 := fun e => g1 (e ▸ memN_iff.1 h1)
   exact ⟨g1, g2, g3, by rw [lookN_cons, if_neg hne]; exact g4⟩
  | false =>
   cases h2 : memN keep s0 with
   | false =>
    rw [h1, h2] at h
    obtain ⟨l', hK, hl⟩ := cleanF_spec r seen K h
    refine ⟨l', hK, fun s p hs => ?_⟩
    obtain ⟨g1, g2, g3, g4⟩ := hl s p hs
    have hne : ¬ s = s0 := fun e => memN_false h2 (e ▸ g2)
    exact ⟨g1, g2, g3, by rw [lookN_cons, if_neg hne]; exact g4⟩
   | true =>
    rw [h1, h2] at h
    cases pa with
    | nil =>
     dsimp only at h
     rw [forceA_eq] at h
     obtain ⟨l', hK, hl⟩ := cleanF_spec r (s0 :: seen) _ h
     refine ⟨_, hK, fun s p hs => ?_⟩
     rw [lookN_cons] at hs ⊢
     by_cases hss : s = s0
     · subst hss
       rw [if_pos rfl] at hs ⊢
       simp only [Option.some.injEq] at hs; subst hs
       exact ⟨memN_false h1, memN_iff.1 h2, rfl, rfl⟩
     · rw [if_neg hss] at hs ⊢
       obtain ⟨g1, g2, g3, g4⟩ := hl s p hs
       exact ⟨fun hm => g1 (List.mem_cons_of_mem _ hm), g2, g3, g4⟩
    | cons x y =>
     dsimp only at h
     obtain ⟨l', hK, hl⟩ := cleanF_spec r (s0 :: seen) K h
     refine ⟨l', hK, fun s p hs => ?_⟩
     obtain ⟨g1, g2, g3, g4⟩ := hl s p hs
     have hne : ¬ s = s0 := fun e => g1 (e ▸ List.mem_cons_self)
     exact ⟨fun hm => g1 (List.mem_cons_of_mem _ hm), g2, g3, by rw [lookN_cons, if_neg hne]; exact g4⟩
theorem cleanH_spec : ∀ (l : List (Nat × HObj)) (seen : List Nat) (K : List (Nat × HObj) → Prop), cleanH seen l K → ∃ l', K l' ∧ ∀ s, s ∉ seen → lookN l' s = lookN l s
 | [], seen, K, h => ⟨[], h, fun s _ => rfl⟩
 | (h0, o) :: r, seen, K, h => by
  unfold cleanH at h
  cases h1 : memN seen h0 with
  | false =>
   rw [h1] at h
   dsimp only at h
   rw [forceN_eq, forceO_eq] at h
   obtain ⟨l', hK, hl⟩ := cleanH_spec r (h0 :: seen) _ h
   refine ⟨_, hK, fun s hs => ?_⟩
   rw [lookN_cons, lookN_cons]
   by_cases hss : s = h0
   · rw [if_pos hss, if_pos hss]
   · rw [if_neg hss, if_neg hss]
     exact hl s (fun hm => (List.mem_cons.1 hm).elim hss hs)
  | true =>
   rw [h1] at h
   obtain ⟨l', hK, hl⟩ := cleanH_spec r seen K h
   refine ⟨l', hK, fun s hs => ?_⟩
   have hne : ¬ s = h0 := fun e => hs (e ▸ memN_iff.1 h1)
   rw [lookN_cons, if_neg hne]
   exact hl s hs
theorem dedupN_spec : ∀ (l acc : List Nat) (K : List Nat → Prop), dedupN acc l K → ∃ l', K l' ∧ ∀ h, h ∈ acc ∨ h ∈ l → h ∈ l'
 | [], acc, K, h => ⟨acc, h, fun x hx => hx.elim id (fun h => by cases h)⟩
 | a :: r, acc, K, h => by
  unfold dedupN at h
  cases h1 : memN acc a with
  | true =>
   rw [h1] at h
   obtain ⟨l', hK, hl⟩ := dedupN_spec r acc K h
   refine ⟨l', hK, fun x hx => ?_⟩
   rcases hx with hx | hx
   · exact hl x (.inl hx)
   · rcases List.mem_cons.1 hx with rfl | hx
     · exact hl x (.inl (memN_iff.1 h1))
     · exact hl x (.inr hx)
  | false =>
   rw [h1] at h
   dsimp only at h
   rw [forceN_eq] at h
   obtain ⟨l', hK, hl⟩ := dedupN_spec r (a :: acc) K h
   refine ⟨l', hK, fun x hx => ?_⟩
   rcases hx with hx | hx
   · exact hl x (.inl (List.mem_cons_of_mem _ hx))
   · rcases List.mem_cons.1 hx with rfl | hx
     · exact hl x (.inl List.mem_cons_self)
     · exact hl x (.inr hx)
theorem emit_spec {keep : List Nat} {draw : Bool} {L : List Oper} {rsE : RS} {K : RS → Prop} (h : emit keep draw L rsE K) : (draw = true → ordB L rsE.tr = true) ∧ (∀ p ∈ rsE.vc, p) ∧
    ∃ rs', K rs' ∧ (∀ s, ((rs'.slf s).path = [] ∧ rs'.slf s = rsE.slf s) ∨ rs'.slf s = ⟨[], .any⟩) ∧ (∀ h, rs'.hpf h = rsE.hpf h) ∧ rs'.nx = rsE.nx ∧ rs'.gd = [] ∧ rs'.vc = [] ∧ rs'.tr = [] ∧ ∀ h ∈ rsE.wr, h ∈ rs'.wr := by
 cases rsE with
 | mk sl hp nx gd vc tr wr =>
  unfold emit at h
  dsimp only at h
  split at h
  · rename_i h2
    obtain ⟨sl', h, hsl⟩ := cleanF_spec _ _ _ h
    obtain ⟨hp', h, hhp⟩ := cleanH_spec _ _ _ h
    obtain ⟨wr', h, hwr⟩ := dedupN_spec _ _ _ h
    have fin : (∀ p ∈ vc, p) ∧ K ⟨sl', hp', nx, [], [], [], wr'⟩ := by
     cases vc with
     | nil => exact ⟨fun p hp => by (cases hp), h⟩
     | cons p r => exact ⟨allP_spec h.1, h.2.out⟩
    refine ⟨fun hd => ?_, fin.1, _, fin.2, fun s => ?_, fun n => ?_, rfl, rfl, rfl, rfl, fun n hn => hwr n (.inr hn)⟩
    · subst hd; exact h2
    · unfold RS.slf
      dsimp only
      cases hl : lookN sl' s with
      | none => exact .inr rfl
      | some p =>
       obtain ⟨_, _, g3, g4⟩ := hsl s p hl
       rw [g4]
       exact .inl ⟨g3, rfl⟩
    · unfold RS.hpf
      dsimp only
      rw [hhp n (fun h => by cases h)]
  · exact h.elim
theorem Holds.congr {C : Ctx} {γ : Nat → Bool} {sl sl' : Nat → PA} {hp hp' : Nat → HObj} {β : Asg} {a : Act} {G : GW} (H : Holds C γ ⟨sl, hp⟩ β a G) (hs : ∀ s, ((sl' s).path = [] ∧ sl' s = sl s) ∨ sl' s = ⟨[], .any⟩) (hh : ∀ h, hp' h = hp h) : ∀ γ', Holds C γ' ⟨sl', hp'⟩ β a G := fun γ' =>
 { slots := fun s => by
    show satP γ' (sl' s) β G _
    rcases hs s with ⟨h1, h2⟩ | h
    · have := H.slots s
      refine ⟨fun _ => ?_, fun hn => (hn (fun e he => by rw [h1] at he; cases he)).elim⟩
      rw [h2]
      exact this.1 (fun e he => by
       have h3 : (sl s).path = [] := by rw [← h2]; exact h1
       have he' : e ∈ (sl s).path := he
       rw [h3] at he'; cases he')
    · rw [h]
      exact ⟨fun _ => by unfold sat; trivial, fun hn => (hn (fun e he => by cases he)).elim⟩
   size := H.size
   defers := H.defers
   inv := by
    have : hp' = hp := funext hh
    show HInv C hp' β G
    rw [this]; exact H.inv }
section
variable {P : Program} {c : Cf} (hE : c.E.ok P = true) (hS : SpecsOK P c.gl c.F c.nz) (hL : LateOK P c) (hmix : P.follows .mixedOrders = true) {C : Ctx} (hg : GlobIs C c) (hN : C.N = c.N)
include hE hS hL hmix hg hN
theorem region_wp {r : Option Nat} {id : Nat} {ops : Array Oper} {draw : Bool} {rs : RS} {K : RS → Prop} {Q : Exit → Act → World → Prop} {β : Asg} {a : Act} {G : GW} (h : regA c ops.toList draw rs K) (hsim : Sim C rs β a G)
    (hQ : ∀ rs' β' a' G', K rs' → Sim C rs' β' a' G' → β.le β' → G.le G' → Ext rs rs' → SameO ops.toList a a' → Q .normal a' G'.w) : (Code.region id ops draw).wpIn (WF r) 0 P Q a G.w := by
 unfold regA at h
 split at h
 rotate_left
 · exact h.elim
 rename_i hgd
 have hat0 : ∀ E, AtI c ops.toList E rs.slf rs.hpf 0 rs := fun E =>
  { slf := by
     funext s
     exact (atD_congr (WSof ops.toList E) (fun _ => false) (lex 0) 0 rs.slf rs.slf s (fun j w _ _ => by simp [lex]) rfl).symm.trans (by rw [atD_false]) |>.symm
    hpf := by
     funext s
     exact (atD_congr (WHof E) (fun _ => false) (lex 0) 0 rs.hpf rs.hpf s (fun j w _ _ => by simp [lex]) rfl).symm.trans (by rw [atD_false]) |>.symm
    fresh := hsim.fresh
    gd := ⟨fun k p pp hl => by rw [hsim.gd] at hl; cases hl⟩
    pth := fun s x hx => by rw [hsim.flat s] at hx; cases hx }
 have hfin : ∀ (E : List TE) (rsE rs' : RS), K rs' → AtI c ops.toList E rs.slf rs.hpf ops.toList.length rsE → rs.nx ≤ rsE.nx → (∀ h, (h ∈ rs.wr ∨ ∃ e ∈ E, h ∈ keysH e.hw) → h ∈ rs'.wr) →
     (∀ s, ((rs'.slf s).path = [] ∧ rs'.slf s = rsE.slf s) ∨ rs'.slf s = ⟨[], .any⟩) → (∀ h, rs'.hpf h = rsE.hpf h) → rs'.nx = rsE.nx → rs'.gd = [] → rs'.vc = [] → rs'.tr = [] → ∀ (β0 : Asg) (G0 : GW), β.le β0 → G.le G0 →
     ∀ a' β' G', Holds C (gam E) ⟨rsE.slf, rsE.hpf⟩ β' a' G' → β0.le β' → G0.le G' → SameO ops.toList a a' → Q .normal a' G'.w := by
  intro E rsE rs' hK hend hnxle hwr hsl hhp hnx hgd' hvc' htr' β0 G0 hb0 hg0 a' β' G' hh hb hgl hsm
  refine hQ rs' β' a' G' hK ⟨hh.congr hsl hhp, fun s => ?_, fun n hn => ?_, hgd', hvc', htr'⟩ (Asg.le_trans hb0 hb) (GW.le_trans hg0 hgl) ⟨fun n hn => hwr n (.inl hn), fun n hn hnw => ?_, by rw [hnx]; exact hnxle⟩ hsm
  · rcases hsl s with ⟨h1, _⟩ | h
    · exact h1
    · rw [h]
  · rw [hhp]; exact hend.fresh n (by rw [← hnx]; exact hn)
  · rw [hhp, hend.hpf]
    have hnk : ∀ e ∈ E, n ∉ keysH e.hw := fun e he hk => hnw (hwr n (.inr ⟨e, he, hk⟩))
    exact (atD_congr (WHof E) (lex ops.toList.length) (fun _ => false) 0 rs.hpf rs.hpf n (fun j w hj hs => by
     obtain ⟨e, h2, rfl⟩ := WHof_inv hj
     exact (hnk e (List.mem_of_getElem? h2) (lookH_some.1 hs)).elim) rfl).trans (by rw [atD_false])
 cases draw with
 | false =>
  refine wpIn_region ?_
  have hI0 : Holds C (gam []) ⟨rs.slf, rs.hpf⟩ β a G := hsim.holds _
  have := region_seq (ρ := r) hE hS hL hg hN (Q := Q) (ops := ops) (y := true) rfl hgd (K := fun rs' => emit c.keep false ops.toList rs' K) (fun rsE hK => (emit_spec hK).2.1) (sl0 := rs.slf) (hp0 := rs.hpf) (rs0 := rs) (a0 := a) (β0 := β) (G0 := G)
   (fun rsE E hemit hend hlen hnxle hwr a' β' G' hh hb hgl hsm => by
    obtain ⟨_, _, rs', hK, hsl, hhp, hnx, hgd', hvc', htr', hwr'⟩ := emit_spec hemit
    exact hfin E rsE rs' hK hend hnxle (fun h hh => hwr' h (hwr h hh)) hsl hhp hnx hgd' hvc' htr' β G (Asg.le_refl β) G.le_refl a' β' G' hh hb hgl hsm)
   ops.toList 0 rs [] h rfl rfl (Nat.zero_le _) (hat0 []) (fun j o hj => by omega) (Nat.le_refl _) (fun h hh => by
    rcases hh with hh | ⟨e, he, _⟩
    · exact hh
    · cases he) a β G (Asg.le_refl β) G.le_refl (SameO.refl _ _) hI0
  rw [List.range_eq_range']
  simpa using this
 | true =>
  obtain ⟨E, rsE, hemit, hwalk⟩ := runOps_walk hS _ _ _ _ h
  obtain ⟨hord, hvc, rs', hK, hsl, hhp, hnx, hgd', hvc', htr', hwr⟩ := emit_spec hemit
  obtain ⟨hw, _⟩ := hwalk hvc
  obtain ⟨hall, hend, hlen, hnxle⟩ := walk_states hw (by simp) (by simp) (hat0 E)
  obtain ⟨htrE, hwrE⟩ := walk_tr hw
  have hall' : ∀ (j : Nat) (o : Oper), ops.toList[j]? = some o → ∃ e, E[j]? = some e ∧ OpAt c ops.toList E rs.slf rs.hpf j o e := fun j o hj => hall j o (Nat.zero_le _) hj
  rw [Nat.zero_add] at hend
  have hwr2 : ∀ h, (h ∈ rs.wr ∨ ∃ e ∈ E, h ∈ keysH e.hw) → h ∈ rs'.wr := fun n hn => hwr n (by
   rw [hwrE]
   rcases hn with hn | ⟨e, he, hk⟩
   · exact List.mem_append_right _ hn
   · exact List.mem_append_left _ (List.mem_flatMap.2 ⟨e, List.mem_reverse.2 he, hk⟩))
  have hfin' : ∀ (β0 : Asg) (G0 : GW), β.le β0 → G.le G0 → ∀ a' β' G', Holds C (gam E) ⟨atD (WSof ops.toList E) (lex ops.toList.length) 0 rs.slf, atD (WHof E) (lex ops.toList.length) 0 rs.hpf⟩ β' a' G' → β0.le β' → G0.le G' → SameO ops.toList a a' → Q .normal a' G'.w := fun β0 G0 hb0 hg0 a' β' G' hh hb hgl hsm => by
   rw [← hend.slf, ← hend.hpf] at hh
   exact hfin E rsE rs' hK hend hnxle hwr2 hsl hhp hnx hgd' hvc' htr' β0 G0 hb0 hg0 a' β' G' hh hb hgl hsm
  have hat : Holds C (gam E) ⟨atD (WSof ops.toList E) (lex 0) 0 rs.slf, atD (WHof E) (lex 0) 0 rs.hpf⟩ β a G := by
   rw [← (hat0 E).slf, ← (hat0 E).hpf]; exact hsim.holds _
  refine wpIn_region_any hmix ?_
  obtain ⟨hback, hordd⟩ := ordB_spec hlen (by rw [htrE, hsim.tr, List.append_nil]) (hord rfl)
  have hsz : (Array.replicate ops.size false).size = ops.toList.length := by simp
  have hf : ∀ i, (Array.replicate ops.size false).getD i false = false := fun i => by
   rw [Array.getD_eq_getD_getElem?, Array.getElem?_replicate]
   split <;> rfl
  have hlx : (fun i => (Array.replicate ops.size false).getD i false) = lex 0 := by
   funext i; rw [hf]; simp [lex]
  have hat' : Holds C (gam E) ⟨atD (WSof ops.toList E) (lex 0) 0 rs.slf, atD (WHof E) (lex 0) 0 rs.hpf⟩ β a { G with w := G.w.drew } := by
   refine ⟨fun s => (hat.slots s).mono (Asg.le_refl β) (GW.le_drew G), hat.size, hat.defers.mono (GW.le_drew G), hat.inv.drew⟩
  have := region_any (r := r) hE hS hg (Q := Q) (ops := ops) rfl hgd hN hlen hall' hback hordd (hfin' β { G with w := G.w.drew } (Asg.le_refl β) (GW.le_drew G)) ops.size (Array.replicate ops.size false) hsz (by
   have : (List.range ops.toList.length).filter (fun i => !(Array.replicate ops.size false).getD i false) = List.range ops.toList.length := by
    apply List.filter_eq_self.2
    intro i _
    rw [hf]; rfl
   rw [this]; simp) (fun i hi => by dsimp only at hi; rw [hf] at hi; cases hi) a β { G with w := G.w.drew } (Asg.le_refl β) (GW.le_refl _) (SameO.refl _ _) (by rw [hlx]; exact hat')
  exact this
end
end Go.Gv

/- The head of a loop: own memory under fixed names. -/
namespace Go.Gv
open Go
mutual
theorem sat_on : ∀ (X : AP) {β β' : Asg} {G : GW} {v : Value} {l : List Nat}, (∀ h ∈ namesA X l, β' h = β h) → sat X β G v → sat X β' G v
 | .any, _, _, _, _, _, _, h => h
 | .dat t x, _, _, _, _, _, _, h => by unfold sat at h ⊢; exact h
 | .blit b, _, _, _, _, _, _, h => by unfold sat at h ⊢; exact h
 | .val u, _, _, _, _, _, _, h => by unfold sat at h ⊢; exact h
 | .agg cs, _, _, _, _, _, hn, h => by unfold sat at h ⊢; obtain ⟨l, e, h⟩ := h; exact ⟨l, e, satL_on cs hn h⟩
 | .nil, _, _, _, _, _, _, h => by unfold sat at h; exact h.elim
 | .cons _ _, _, _, _, _, _, _, h => by unfold sat at h; exact h.elim
 | .tup vs, _, _, _, _, _, hn, h => by unfold sat at h ⊢; obtain ⟨l, e, h⟩ := h; exact ⟨l, e, satT_on vs hn h⟩
 | .ptr t x, _, _, _, _, _, _, h => by unfold sat at h ⊢; exact h
 | .ref h, _, _, _, _, _, hn, hs => by unfold sat at hs ⊢; rw [hn h (addN_mem.2 (.inl rfl))]; exact hs
 | .loc h off, _, _, _, _, _, hn, hs => by unfold sat at hs ⊢; rw [hn h (addN_mem.2 (.inl rfl))]; exact hs
 | .rloc h i sz off, _, _, _, _, _, hn, hs => by unfold sat at hs ⊢; rw [hn h (addN_mem.2 (.inl rfl))]; exact hs
 | .vw h k sz, _, _, _, _, _, hn, hs => by unfold sat at hs ⊢; rw [hn h (addN_mem.2 (.inl rfl))]; exact hs
 | .dec p, _, _, _, _, _, _, h => by unfold sat at h ⊢; exact h
 | .nxt p, _, _, _, _, _, _, h => by unfold sat at h ⊢; exact h
 | .sl h t xs, _, _, _, _, _, hn, hs => by unfold sat at hs ⊢; rw [hn h (addN_mem.2 (.inl rfl))]; exact hs
 | .clos f caps, _, _, _, _, _, hn, h => by unfold sat at h ⊢; obtain ⟨l, e, h⟩ := h; exact ⟨l, e, satT_on caps hn h⟩
theorem satL_on : ∀ (X : AP) {β β' : Asg} {G : GW} {vs : List Value} {l : List Nat}, (∀ h ∈ namesA X l, β' h = β h) → satL X β G vs → satL X β' G vs
 | .nil, _, _, _, _, _, _, h => by unfold satL at h ⊢; exact h
 | .cons a b, _, _, _, _, _, hn, hs => by
  unfold satL at hs ⊢
  obtain ⟨v, l', e, o, h1, h2⟩ := hs
  exact ⟨v, l', e, o, sat_on a hn h1, satL_on b (fun h hm => hn h (namesA_mono a hm)) h2⟩
 | .any, _, _, _, _, _, _, h => by unfold satL at h; exact h.elim
 | .dat _ _, _, _, _, _, _, _, h => by unfold satL at h; exact h.elim
 | .blit _, _, _, _, _, _, _, h => by unfold satL at h; exact h.elim
 | .val _, _, _, _, _, _, _, h => by unfold satL at h; exact h.elim
 | .agg _, _, _, _, _, _, _, h => by unfold satL at h; exact h.elim
 | .tup _, _, _, _, _, _, _, h => by unfold satL at h; exact h.elim
 | .ptr _ _, _, _, _, _, _, _, h => by unfold satL at h; exact h.elim
 | .ref _, _, _, _, _, _, _, h => by unfold satL at h; exact h.elim
 | .loc _ _, _, _, _, _, _, _, h => by unfold satL at h; exact h.elim
 | .rloc _ _ _ _, _, _, _, _, _, _, h => by unfold satL at h; exact h.elim
 | .vw _ _ _, _, _, _, _, _, _, h => by unfold satL at h; exact h.elim
 | .dec _, _, _, _, _, _, _, h => by unfold satL at h; exact h.elim
 | .nxt _, _, _, _, _, _, _, h => by unfold satL at h; exact h.elim
 | .sl _ _ _, _, _, _, _, _, _, h => by unfold satL at h; exact h.elim
 | .clos _ _, _, _, _, _, _, _, h => by unfold satL at h; exact h.elim
theorem satT_on : ∀ (X : AP) {β β' : Asg} {G : GW} {vs : List Value} {l : List Nat}, (∀ h ∈ namesA X l, β' h = β h) → satT X β G vs → satT X β' G vs
 | .nil, _, _, _, _, _, _, h => by unfold satT at h ⊢; exact h
 | .cons a b, _, _, _, _, _, hn, hs => by
  unfold satT at hs ⊢
  obtain ⟨v, l', e, h1, h2⟩ := hs
  exact ⟨v, l', e, sat_on a hn h1, satT_on b (fun h hm => hn h (namesA_mono a hm)) h2⟩
 | .any, _, _, _, _, _, _, h => by unfold satT at h; exact h.elim
 | .dat _ _, _, _, _, _, _, _, h => by unfold satT at h; exact h.elim
 | .blit _, _, _, _, _, _, _, h => by unfold satT at h; exact h.elim
 | .val _, _, _, _, _, _, _, h => by unfold satT at h; exact h.elim
 | .agg _, _, _, _, _, _, _, h => by unfold satT at h; exact h.elim
 | .tup _, _, _, _, _, _, _, h => by unfold satT at h; exact h.elim
 | .ptr _ _, _, _, _, _, _, _, h => by unfold satT at h; exact h.elim
 | .ref _, _, _, _, _, _, _, h => by unfold satT at h; exact h.elim
 | .loc _ _, _, _, _, _, _, _, h => by unfold satT at h; exact h.elim
 | .rloc _ _ _ _, _, _, _, _, _, _, h => by unfold satT at h; exact h.elim
 | .vw _ _ _, _, _, _, _, _, _, h => by unfold satT at h; exact h.elim
 | .dec _, _, _, _, _, _, _, h => by unfold satT at h; exact h.elim
 | .nxt _, _, _, _, _, _, _, h => by unfold satT at h; exact h.elim
 | .sl _ _ _, _, _, _, _, _, _, h => by unfold satT at h; exact h.elim
 | .clos _ _, _, _, _, _, _, _, h => by unfold satT at h; exact h.elim
end
mutual
theorem sat_nm : ∀ (X : AP) {β : Asg} {G : GW} {v : Value} {l : List Nat}, sat X β G v → ∀ h ∈ namesA X l, h ∈ l ∨ (β h).isSome = true
 | .any, _, _, _, _, _, _, hm => .inl hm
 | .dat t x, _, _, _, _, _, _, hm => .inl hm
 | .blit b, _, _, _, _, _, _, hm => .inl hm
 | .val u, _, _, _, _, _, _, hm => .inl hm
 | .agg cs, _, _, _, _, hs, h, hm => by unfold sat at hs; obtain ⟨l, e, hs⟩ := hs; exact satL_nm cs hs h hm
 | .nil, _, _, _, _, hs, _, _ => by unfold sat at hs; exact hs.elim
 | .cons _ _, _, _, _, _, hs, _, _ => by unfold sat at hs; exact hs.elim
 | .tup vs, _, _, _, _, hs, h, hm => by unfold sat at hs; obtain ⟨l, e, hs⟩ := hs; exact satT_nm vs hs h hm
 | .ptr t x, _, _, _, _, _, _, hm => .inl hm
 | .ref n, _, _, _, _, hs, h, hm => by
  unfold sat at hs
  exact (addN_mem.1 hm).elim (fun e => .inr (by rw [e, hs.1]; rfl)) .inl
 | .loc n off, _, _, _, _, hs, h, hm => by
  unfold sat at hs
  obtain ⟨b, hb, _⟩ := hs
  exact (addN_mem.1 hm).elim (fun e => .inr (by rw [e, hb]; rfl)) .inl
 | .rloc n i sz off, _, _, _, _, hs, h, hm => by
  unfold sat at hs
  obtain ⟨a, len, cap, hb, _⟩ := hs
  exact (addN_mem.1 hm).elim (fun e => .inr (by rw [e, hb]; rfl)) .inl
 | .vw n k sz, _, _, _, _, hs, h, hm => by
  unfold sat at hs
  obtain ⟨a, len, cap, hb, _⟩ := hs
  exact (addN_mem.1 hm).elim (fun e => .inr (by rw [e, hb]; rfl)) .inl
 | .dec p, _, _, _, _, _, _, hm => .inl hm
 | .nxt p, _, _, _, _, _, _, hm => .inl hm
 | .sl n t xs, _, _, _, _, hs, h, hm => by
  unfold sat at hs
  exact (addN_mem.1 hm).elim (fun e => .inr (by rw [e, hs.1]; rfl)) .inl
 | .clos f caps, _, _, _, _, hs, h, hm => by unfold sat at hs; obtain ⟨l, e, hs⟩ := hs; exact satT_nm caps hs h hm
theorem satL_nm : ∀ (X : AP) {β : Asg} {G : GW} {vs : List Value} {l : List Nat}, satL X β G vs → ∀ h ∈ namesA X l, h ∈ l ∨ (β h).isSome = true
 | .nil, _, _, _, _, _, _, hm => .inl hm
 | .cons a b, _, _, _, l, hs, h, hm => by
  unfold satL at hs
  obtain ⟨v, l', e, o, h1, h2⟩ := hs
  rcases sat_nm a (l := namesA b l) h1 h hm with hm | hm
  · exact satL_nm b h2 h hm
  · exact .inr hm
 | .any, _, _, _, _, h, _, _ => by unfold satL at h; exact h.elim
 | .dat _ _, _, _, _, _, h, _, _ => by unfold satL at h; exact h.elim
 | .blit _, _, _, _, _, h, _, _ => by unfold satL at h; exact h.elim
 | .val _, _, _, _, _, h, _, _ => by unfold satL at h; exact h.elim
 | .agg _, _, _, _, _, h, _, _ => by unfold satL at h; exact h.elim
 | .tup _, _, _, _, _, h, _, _ => by unfold satL at h; exact h.elim
 | .ptr _ _, _, _, _, _, h, _, _ => by unfold satL at h; exact h.elim
 | .ref _, _, _, _, _, h, _, _ => by unfold satL at h; exact h.elim
 | .loc _ _, _, _, _, _, h, _, _ => by unfold satL at h; exact h.elim
 | .rloc _ _ _ _, _, _, _, _, h, _, _ => by unfold satL at h; exact h.elim
 | .vw _ _ _, _, _, _, _, h, _, _ => by unfold satL at h; exact h.elim
 | .dec _, _, _, _, _, h, _, _ => by unfold satL at h; exact h.elim
 | .nxt _, _, _, _, _, h, _, _ => by unfold satL at h; exact h.elim
 | .sl _ _ _, _, _, _, _, h, _, _ => by unfold satL at h; exact h.elim
 | .clos _ _, _, _, _, _, h, _, _ => by unfold satL at h; exact h.elim
theorem satT_nm : ∀ (X : AP) {β : Asg} {G : GW} {vs : List Value} {l : List Nat}, satT X β G vs → ∀ h ∈ namesA X l, h ∈ l ∨ (β h).isSome = true
 | .nil, _, _, _, _, _, _, hm => .inl hm
 | .cons a b, _, _, _, l, hs, h, hm => by
  unfold satT at hs
  obtain ⟨v, l', e, h1, h2⟩ := hs
  rcases sat_nm a (l := namesA b l) h1 h hm with hm | hm
  · exact satT_nm b h2 h hm
  · exact .inr hm
 | .any, _, _, _, _, h, _, _ => by unfold satT at h; exact h.elim
 | .dat _ _, _, _, _, _, h, _, _ => by unfold satT at h; exact h.elim
 | .blit _, _, _, _, _, h, _, _ => by unfold satT at h; exact h.elim
 | .val _, _, _, _, _, h, _, _ => by unfold satT at h; exact h.elim
 | .agg _, _, _, _, _, h, _, _ => by unfold satT at h; exact h.elim
 | .tup _, _, _, _, _, h, _, _ => by unfold satT at h; exact h.elim
 | .ptr _ _, _, _, _, _, h, _, _ => by unfold satT at h; exact h.elim
 | .ref _, _, _, _, _, h, _, _ => by unfold satT at h; exact h.elim
 | .loc _ _, _, _, _, _, h, _, _ => by unfold satT at h; exact h.elim
 | .rloc _ _ _ _, _, _, _, _, h, _, _ => by unfold satT at h; exact h.elim
 | .vw _ _ _, _, _, _, _, h, _, _ => by unfold satT at h; exact h.elim
 | .dec _, _, _, _, _, h, _, _ => by unfold satT at h; exact h.elim
 | .nxt _, _, _, _, _, h, _, _ => by unfold satT at h; exact h.elim
 | .sl _ _ _, _, _, _, _, h, _, _ => by unfold satT at h; exact h.elim
 | .clos _ _, _, _, _, _, h, _, _ => by unfold satT at h; exact h.elim
end
theorem rootsB_len : ∀ (B : List (Nat × Sh)), (rootsB B).length = nn (shB B)
 | [] => rfl
 | (h, s) :: r => by
  cases hs : rowB s with
  | true =>
   obtain ⟨t, rfl⟩ : ∃ t, s = .row t := by cases s <;> first | exact ⟨_, rfl⟩ | cases hs
   show (some h :: rootsB r).length = nn (.cons (.row t) (shB r))
   simp [nn, rootsB_len r]; omega
  | false =>
   rw [(shB_box hs).1, (shB_box hs).2.2]
   simp [nn, rootsB_len r]; omega
theorem rootsL_len (S B : List (Nat × Sh)) : (rootsL S B).length = nn (shL S B) := by simp [rootsL, nn, rootsB_len]
theorem locB_roots {hp : Nat → HObj} : ∀ (B : List (Nat × Sh)) (nx : Nat) (x : SDat (shB B)) (ns : List Nat) (ex : List (Nat × HObj)) (nx' : Nat), fromA hp (shB B) (locB B) nx = some ⟨x, ns, ex, nx'⟩ →
    (∀ (k h : Nat), (rootsB B)[k]? = some (some h) → ns[k]? = some h ∧ h ∈ keysS B ∧ hp h ≠ .none) ∧ ∀ h ∈ keysS B, h ∈ ns ∧ hp h ≠ .none
 | [], nx, x, ns, ex, nx', h => ⟨fun k h hk => by simp [rootsB] at hk, fun h hm => by cases hm⟩
 | (h0, s) :: r, nx, x, ns, ex, nx', h => by
  cases hsb : rowB s with
  | true =>
   obtain ⟨t, rfl⟩ : ∃ t, s = .row t := by cases s <;> first | exact ⟨_, rfl⟩ | cases hsb
   change fromA hp (.cons (.row t) (shB r)) (.cons (.ref h0) (locB r)) nx = some ⟨x, ns, ex, nx'⟩ at h
   unfold fromA at h
   dsimp only at h
   split at h
   · rename_i y ys ey nx1 hy
     split at h
     · rename_i z zs ez nx2 hz
       simp only [Option.some.injEq, Fr.mk.injEq] at h; obtain ⟨rfl, rfl, rfl, rfl⟩ := h
       have hys : ys = [h0] ∧ hp h0 ≠ .none := by
        unfold fromA at hy
        dsimp only at hy
        split at hy
        · rename_i hrow
          split at hy
          · simp only [Option.some.injEq, Fr.mk.injEq] at hy; obtain ⟨rfl, rfl, rfl, rfl⟩ := hy
            exact ⟨rfl, by rw [hrow]; simp⟩
          · cases hy
        · cases hy
       obtain ⟨rfl, hne⟩ := hys
       obtain ⟨i1, i2⟩ := locB_roots r nx1 z zs ez _ hz
       refine ⟨fun k h hk => ?_, fun h hm => ?_⟩
       · change (some h0 :: rootsB r)[k]? = some (some h) at hk
         cases k with
         | zero => simp at hk; subst hk; exact ⟨rfl, List.mem_cons_self, hne⟩
         | succ k =>
          simp only [List.getElem?_cons_succ] at hk
          obtain ⟨g1, g2, g3⟩ := i1 _ h hk
          exact ⟨g1, List.mem_cons_of_mem _ g2, g3⟩
       · rcases List.mem_cons.1 hm with rfl | hm
         · exact ⟨List.mem_append_left _ List.mem_cons_self, hne⟩
         · exact ⟨List.mem_append_right _ (i2 h hm).1, (i2 h hm).2⟩
     · cases h
   · cases h
  | false =>
   revert x
   rw [(shB_box (h := h0) (r := r) hsb).1, (shB_box (h := h0) (r := r) hsb).2.1, (shB_box (h := h0) (r := r) hsb).2.2]
   intro x h
   unfold fromA at h
   dsimp only at h
   split at h
   · rename_i y ys ey nx1 hy
     split at h
     · rename_i z zs ez nx2 hz
       simp only [Option.some.injEq, Fr.mk.injEq] at h; obtain ⟨rfl, rfl, rfl, rfl⟩ := h
       have hys : ∃ l, ys = h0 :: l ∧ hp h0 ≠ .none := by
        unfold fromA at hy
        split at hy
        · rename_i heq
          cases heq
          split at hy
          · rename_i hbox
            split at hy
            · simp only [Option.some.injEq, Fr.mk.injEq] at hy; obtain ⟨rfl, rfl, rfl, rfl⟩ := hy
              exact ⟨_, rfl, by rw [hbox]; simp⟩
            · cases hy
          · cases hy
        · cases hy
       have hlen : ys.length = nn s + 1 := fromA_len hp _ _ _ _ _ _ _ hy
       obtain ⟨l, rfl, hne⟩ := hys
       obtain ⟨i1, i2⟩ := locB_roots r nx1 z zs ez _ hz
       have hl : l.length = nn s := by simpa using hlen
       refine ⟨fun k h hk => ?_, fun h hm => ?_⟩
       · cases k with
         | zero => simp at hk; subst hk; exact ⟨rfl, List.mem_cons_self, hne⟩
         | succ k =>
          simp only [List.getElem?_cons_succ] at hk
          by_cases hlt : k < nn s
          · rw [List.getElem?_append_left (by simpa using hlt), List.getElem?_replicate, if_pos hlt] at hk; cases hk
          · rw [List.getElem?_append_right (by simp; omega), List.length_replicate] at hk
            obtain ⟨g1, g2, g3⟩ := i1 _ h hk
            refine ⟨?_, List.mem_cons_of_mem _ g2, g3⟩
            show ((h0 :: l) ++ zs)[k + 1]? = some h
            rw [List.cons_append, List.getElem?_cons_succ, List.getElem?_append_right (by omega), hl]; exact g1
       · rcases List.mem_cons.1 hm with rfl | hm
         · exact ⟨List.mem_append_left _ List.mem_cons_self, hne⟩
         · exact ⟨List.mem_append_right _ (i2 h hm).1, (i2 h hm).2⟩
     · cases h
   · cases h
theorem nmL_root {R : List (Option Nat)} {nx k h : Nat} (hr : R[k]? = some (some h)) : nmL R nx k = h := by
 unfold nmL; rw [List.getD_eq_getElem?_getD, hr]; rfl
theorem nmL_new {R : List (Option Nat)} {nx k : Nat} (hr : ∀ h, R[k]? ≠ some (some h)) : nmL R nx k = nx + k := by
 unfold nmL
 rw [List.getD_eq_getElem?_getD]
 cases h : R[k]? with
 | none => rfl
 | some o =>
  cases o with
  | none => rfl
  | some x => exact (hr x h).elim
noncomputable def βL (βx : Asg) (R : List (Option Nat)) (N : List Nat) (nx : Nat) : Asg := fun h =>
 if h < nx then βx h
 else match R.getD (h - nx) none with
  | some _ => none
  | none => (N[h - nx]?).bind βx
theorem loop_rebind {C : Ctx} {hpx : Nat → HObj} {βx βo : Asg} {G : GW} (Hx : HInv C hpx βx G) {T : Sh} {X : AP} {x : SDat T} {N : List Nat} (car : Carried hpx βx βo G T X x N) (hnd : N.Nodup) (hN : ∀ h ∈ N, hpx h ≠ .none) {R : List (Option Nat)} {nx : Nat} (hR : R.length = nn T)
    (hroot : ∀ (k h : Nat), R[k]? = some (some h) → N[k]? = some h ∧ h < nx) (hpr : Nat → HObj) (r1 : ∀ h, nx ≤ h → hpr h = .none) (r2 : ∀ h, h < nx → (hpr h = .dead ∧ ∃ v, βx h = some v) ∨ (hpr h = hpx h ∧ h ∉ N ∧ ∀ cs, hpx h = .box cs → ∀ n ∈ namesA cs [], n < nx)) :
    HInv C (hset hpr (intoH (nmL R nx) T x 0 [])) (βL βx R N nx) G ∧ (∀ h, h < nx → βL βx R N nx h = βx h) ∧ (∀ (k m : Nat), N[k]? = some m → βL βx R N nx (nmL R nx (0 + k)) = βx m) ∧
     ∀ h, nx + nn T ≤ h → hset hpr (intoH (nmL R nx) T x 0 []) h = .none := by
 have hlt : ∀ h, h < nx → βL βx R N nx h = βx h := fun h hh => by unfold βL; rw [if_pos hh]
 have ag : ∀ (k m : Nat), N[k]? = some m → βL βx R N nx (nmL R nx (0 + k)) = βx m := fun k m hm => by
  rw [Nat.zero_add]
  by_cases hr : ∃ h, R[k]? = some (some h)
  · obtain ⟨h, hr⟩ := hr
    obtain ⟨h1, h2⟩ := hroot k h hr
    rw [hm] at h1; cases h1
    rw [nmL_root hr, hlt _ h2]
  · have hr' : ∀ h, R[k]? ≠ some (some h) := fun h e => hr ⟨h, e⟩
    rw [nmL_new hr']
    unfold βL
    rw [if_neg (by omega), show nx + k - nx = k by omega]
    have : R.getD k none = none := by
     rw [List.getD_eq_getElem?_getD]
     cases hrk : R[k]? with
     | none => rfl
     | some o =>
      cases o with
      | none => rfl
      | some y => exact (hr' y hrk).elim
    rw [this, hm]; rfl
 obtain ⟨_, _, _, c4⟩ := car.go (nmL R nx) 0 (βL βx R N nx) ag
 have hlB := objsA_len (nmL R nx) T x 0
 have hview : ∀ h, (∃ k m v, N[k]? = some m ∧ h = nmL R nx k ∧ βx m = some v ∧ ObjOK (βL βx R N nx) G hpx v m (hset hpr (intoH (nmL R nx) T x 0 []) h) ∧ βL βx R N nx h = some v) ∨
     ((∀ k, k < nn T → h ≠ nmL R nx k) ∧ hset hpr (intoH (nmL R nx) T x 0 []) h = hpr h) := fun h => by
  rw [intoH_eq]
  rcases hset_zipN_cases (nmL R nx) hpr (objsA (nmL R nx) T x 0) 0 [] h with ⟨k, o, h1, h2, h3⟩ | ⟨h1, h2⟩
  · rw [Nat.zero_add] at h2
    have hk : k < N.length := by rw [car.len, ← hlB]; exact (List.getElem?_eq_some_iff.1 h1).1
    have hm := getD_at hk
    obtain ⟨v, hv, ho⟩ := c4 k _ o hm h1
    refine .inl ⟨k, _, v, hm, h2, hv, ?_, ?_⟩
    · rw [h3]; exact ho
    · have := ag k _ hm
      rw [Nat.zero_add] at this
      rw [h2, this]; exact hv
  · refine .inr ⟨fun k hk => ?_, h2⟩
    have := h1 k (by rw [hlB]; exact hk)
    rwa [Nat.zero_add] at this
 refine ⟨Hx.rebind _ _ (fun h m => (∃ k, h = nmL R nx k ∧ N[k]? = some m) ∨ (h = m ∧ h < nx ∧ h ∉ N)) (fun h hn => ?_) (fun h hn => ?_) (fun h v hv ho => ?_) (fun h h' m hs hs' => ?_), hlt, ag, fun h hh => ?_⟩
 · rcases hview h with ⟨k, m, v, _, _, _, hok, _⟩ | ⟨h1, h2⟩
   · exact (hok.ne hn).elim
   · rw [h2] at hn
     by_cases hlx : h < nx
     · rw [hlt h hlx]
       rcases r2 h hlx with ⟨e, _⟩ | ⟨e, _⟩
       · rw [hn] at e; cases e
       · exact Hx.heap.no h (e.symm.trans hn)
     · unfold βL
       rw [if_neg hlx]
       cases hr : R.getD (h - nx) none with
       | some y => rfl
       | none =>
        dsimp only
        have : N[h - nx]? = none := by
         rw [List.getElem?_eq_none]
         rcases Nat.lt_or_ge (h - nx) N.length with e | e
         · exfalso
           refine h1 (h - nx) (by rw [← car.len]; exact e) ?_
           rw [nmL_new (fun y e => by rw [List.getD_eq_getElem?_getD, e] at hr; cases hr)]; omega
         · exact e
        rw [this]; rfl
 · rcases hview h with ⟨k, m, v, _, _, _, hok, hb⟩ | ⟨h1, h2⟩
   · exact ⟨v, hb, hok.sat⟩
   · rw [h2] at hn ⊢
     by_cases hlx : h < nx
     · rw [hlt h hlx]
       rcases r2 h hlx with ⟨e, v, hv⟩ | ⟨e, _, hbx⟩
       · exact ⟨v, hv, by rw [e]; trivial⟩
       · rw [e] at hn ⊢
         obtain ⟨v, hv, hs⟩ := Hx.heap.sat h hn
         refine ⟨v, hv, ?_⟩
         cases ho : hpx h with
         | box cs =>
          rw [ho] at hs
          obtain ⟨b, l, e1, h3, h4⟩ := hs
          exact ⟨b, l, e1, satL_on cs (l := []) (fun n hn => hlt n (hbx cs ho n hn)) h3, h4⟩
         | _ => rw [ho] at hs; exact hs
     · exact (hn (r1 h (by omega))).elim
 · rcases hview h with ⟨k, m, v', hm, e, hv', hok, hb⟩ | ⟨h1, h2⟩
   · rw [hv] at hb; cases hb
     exact ⟨m, .inl ⟨k, e, hm⟩, hv', hok.fc, hok.fo⟩
   · rw [h2] at ho ⊢
     by_cases hlx : h < nx
     · rcases r2 h hlx with ⟨e, _⟩ | ⟨e, hnn, _⟩
       · rw [e] at ho
         rcases ho with ⟨b, i, hf⟩ | ⟨b, hf⟩ <;> cases v <;> cases hf
       · rw [e]
         rw [hlt h hlx] at hv
         exact ⟨h, .inr ⟨rfl, hlx, hnn⟩, hv, fun b i hf => hf, fun b hf => hf⟩
     · rw [r1 h (by omega)] at ho
       rcases ho with ⟨b, i, hf⟩ | ⟨b, hf⟩ <;> cases v <;> cases hf
 · rcases hs with ⟨k, e, hm⟩ | ⟨e, _, hnn⟩ <;> rcases hs' with ⟨k', e', hm'⟩ | ⟨e', _, hnn'⟩
   · have : k = k' := nodup_at hnd hm hm'
     rw [e, e', this]
   · exact (hnn' (e' ▸ List.mem_of_getElem? hm)).elim
   · exact (hnn (e ▸ List.mem_of_getElem? hm')).elim
   · rw [e, e']
 · rcases hview h with ⟨k, m, v, hm, e, _⟩ | ⟨_, h2⟩
   · exfalso
     have hk : k < nn T := by rw [← car.len]; exact (List.getElem?_eq_some_iff.1 hm).1
     by_cases hr : ∃ y, R[k]? = some (some y)
     · obtain ⟨y, hr⟩ := hr
       have := (hroot k y hr).2
       rw [nmL_root hr] at e; omega
     · rw [nmL_new (fun y e => hr ⟨y, e⟩)] at e; omega
   · rw [h2]; exact r1 h (by omega)
end Go.Gv

/- The state at the head of a loop: at the entry and behind each round. -/
namespace Go.Gv
open Go
theorem ltN_mem {nx h : Nat} : ∀ {l : List Nat}, h ∈ ltN nx l ↔ h ∈ l ∧ h < nx
 | [] => by simp [ltN]
 | a :: r => by
  unfold ltN
  split
  · rename_i hb
    have hb : a < nx := Nat.le_of_ble_eq_true hb
    rw [List.mem_cons, List.mem_cons, ltN_mem]
    constructor
    · rintro (rfl | ⟨h1, h2⟩)
      · exact ⟨.inl rfl, hb⟩
      · exact ⟨.inr h1, h2⟩
    · rintro ⟨rfl | h1, h2⟩
      · exact .inl rfl
      · exact .inr ⟨h1, h2⟩
  · rename_i hb
    have hb : ¬ a < nx := fun hlt => by
     have : Nat.blt a nx = true := Nat.ble_eq_true_of_le hlt
     rw [this] at hb; cases hb
    rw [List.mem_cons, ltN_mem]
    constructor
    · rintro ⟨h1, h2⟩; exact ⟨.inr h1, h2⟩
    · rintro ⟨rfl | h1, h2⟩
      · exact (hb h2).elim
      · exact ⟨h1, h2⟩
theorem hpf_hset (rs : RS) (h : Nat) : rs.hpf h = hset (fun _ => .none) rs.hp h := by
 unfold RS.hpf
 generalize rs.hp = l
 induction l with
 | nil => rfl
 | cons e r ih =>
  obtain ⟨k, o⟩ := e
  rw [lookN_cons]
  simp only [hset]
  by_cases hk : h = k
  · rw [if_pos hk, if_pos hk]
  · rw [if_neg hk, if_neg hk]; exact ih
theorem dropS_spec {ds : List Nat} : ∀ {l : List (Nat × PA)} {s : Nat} {p : PA}, lookN (dropS ds l) s = some p → s ∉ ds ∧ lookN l s = some p
 | [], s, p, h => by cases h
 | (k, q) :: r, s, p, h => by
  unfold dropS at h
  split at h
  · rename_i hm
    obtain ⟨h1, h2⟩ := dropS_spec h
    have hne : ¬ s = k := fun e => h1 (e ▸ memN_iff.1 hm)
    exact ⟨h1, by rw [lookN_cons, if_neg hne]; exact h2⟩
  · rename_i hm
    rw [lookN_cons] at h ⊢
    by_cases hk : s = k
    · rw [if_pos hk] at h ⊢
      exact ⟨by rw [hk]; exact memN_false hm, h⟩
    · rw [if_neg hk] at h ⊢
      exact dropS_spec h
theorem putS_spec {nm : Nat → Nat} {β : Asg} {G : GW} {a : Act} : ∀ (S : List (Nat × Sh)) (x : SDat (shS S)) (n : Nat) (r : List (Nat × PA)), satT (intoA nm (shS S) x n) β G (S.map (fun p => a.tmps.getD p.1 undef)) →
    ∀ s p, lookN (putS nm S x n r) s = some p → (p.path = [] ∧ sat p.ap β G (a.tmps.getD s undef)) ∨ lookN r s = some p
 | [], x, n, r, h, s, p, hp => .inr hp
 | (k, sh) :: l, x, n, r, h, s, p, hp => by
  change satT (.cons (intoA nm sh x.1 n) (intoA nm (shS l) x.2 (n + nn sh))) β G (a.tmps.getD k undef :: l.map (fun p => a.tmps.getD p.1 undef)) at h
  unfold satT at h
  obtain ⟨v, l', e, h1, h2⟩ := h
  cases e
  unfold putS at hp
  rw [lookN_cons] at hp
  by_cases hk : s = k
  · rw [if_pos hk] at hp
    simp only [Option.some.injEq] at hp; subst hp
    exact .inl ⟨rfl, by rw [hk]; exact h1⟩
  · rw [if_neg hk] at hp
    exact putS_spec l x.2 (n + nn sh) r h2 s p hp
theorem getS_sat {C : Ctx} {rs : RS} {β : Asg} {a : Act} {G : GW} (S0 : Sim C rs β a G) : ∀ (S : List (Nat × Sh)), satT (getS rs.slf S) β G (S.map (fun p => a.tmps.getD p.1 undef))
 | [] => by unfold getS satT; rfl
 | (k, sh) :: l => by
  show satT (.cons (rs.slf k).ap (getS rs.slf l)) β G (a.tmps.getD k undef :: l.map (fun p => a.tmps.getD p.1 undef))
  unfold satT
  refine ⟨_, _, rfl, ((S0.holds (fun _ => false)).slots k).1 (fun e he => ?_), getS_sat S0 l⟩
  have := S0.flat k
  have he' : e ∈ (rs.slf k).path := he
  rw [this] at he'; cases he'
theorem Sim.inv {C : Ctx} {rs : RS} {β : Asg} {a : Act} {G : GW} (S0 : Sim C rs β a G) : HInv C rs.hpf β G := (S0.holds (fun _ => false)).inv
theorem Sim.lt {C : Ctx} {rs : RS} {β : Asg} {a : Act} {G : GW} (S0 : Sim C rs β a G) {h : Nat} {v : Value} (e : β h = some v) : h < rs.nx := by
 rcases Nat.lt_or_ge h rs.nx with hl | hl
 · exact hl
 · rw [S0.inv.heap.no h (S0.fresh h hl)] at e; cases e
theorem loopIn_spec {S B : List (Nat × Sh)} {rs : RS} {x : SDat (shL S B)} {ns : List Nat} {ex : List (Nat × HObj)} {nx : Nat} (h : loopIn S B rs = some ⟨x, ns, ex, nx⟩) : fromA rs.hpf (shL S B) (.cons (getS rs.slf S) (locB B)) rs.nx = some ⟨x, ns, ex, nx⟩ ∧ ns.Nodup ∧
    ∃ N1 N2 ex1 ex2 nx1, fromA rs.hpf (shS S) (getS rs.slf S) rs.nx = some ⟨x.1, N1, ex1, nx1⟩ ∧ fromA rs.hpf (shB B) (locB B) nx1 = some ⟨x.2, N2, ex2, nx⟩ ∧ ns = N1 ++ N2 ∧ ex = ex1 ++ ex2 := by
 unfold loopIn at h
 split at h
 · rename_i fr hfr
   split at h
   · rename_i hnd
     simp only [Option.some.injEq] at h; subst h
     refine ⟨hfr, nodupN_iff.1 hnd, ?_⟩
     have hfr' := hfr
     change fromA rs.hpf (.cons (shS S) (shB B)) (.cons (getS rs.slf S) (locB B)) rs.nx = _ at hfr'
     unfold fromA at hfr'
     dsimp only at hfr'
     split at hfr'
     · rename_i y ys ey nx1 hy
       split at hfr'
       · rename_i z zs ez nx2 hz
         simp only [Option.some.injEq, Fr.mk.injEq] at hfr'
         obtain ⟨rfl, rfl, rfl, rfl⟩ := hfr'
         exact ⟨ys, zs, ey, ez, nx1, hy, hz, rfl, rfl⟩
       · cases hfr'
     · cases hfr'
   · cases h
 · cases h
theorem loop_stateW {C0 C : Ctx} {rs : RS} {β0 : Asg} {a0 : Act} {G0 : GW} (S0 : Sim C0 rs β0 a0 G0) {S B : List (Nat × Sh)} {x0 : SDat (shL S B)} {ns0 : List Nat} {ex0 : List (Nat × HObj)} {n0 : Nat} (h0 : loopIn S B rs = some ⟨x0, ns0, ex0, n0⟩)
    {rs' : RS} {β' : Asg} {a' : Act} {G' : GW} (S1 : Sim C rs' β' a' G') (hb : β0.le β') (hgl : G0.leW G') {x' : SDat (shL S B)} {ns' : List Nat} {ex' : List (Nat × HObj)} {n' : Nat} (h1 : loopIn S B rs' = some ⟨x', ns', ex', n'⟩) (hnx : rs.nx ≤ rs'.nx)
    (hh : ∀ h, h < rs.nx → h ∉ ns0 → rs'.hpf h = rs.hpf h) (hn : ∀ h ∈ ns', h < rs.nx → h ∈ ns0) (ds : List Nat) (hs : ∀ s, s ∉ ds → a'.tmps.getD s undef = a0.tmps.getD s undef) :
    ∃ β'', Sim C (loopHead S B ds rs ns0 x') β'' a' G' ∧ β0.le β'' := by
 obtain ⟨f0, nd0, _, M2, _, _, _, _, fB0, e0, _⟩ := loopIn_spec h0
 obtain ⟨f1, nd1, N1, N2, ex1, ex2, nx1, fS1, fB1, e1, ee1⟩ := loopIn_spec h1
 obtain ⟨βx, Hx, lx, car, _, hns, hfx, _, hlen, hold, hexs⟩ := take_in S1.inv S1.fresh f1
 have car1 := fromA_trans S1.inv.hs hold (shS S) (getS rs'.slf S) rs'.nx x'.1 N1 ex1 nx1 fS1 (fun h o hm => hexs h o (by rw [ee1]; exact List.mem_append_left _ hm))
 obtain ⟨k1, k2⟩ := locB_roots B _ _ _ _ _ fB0
 obtain ⟨m1, m2⟩ := locB_roots B _ _ _ _ _ fB1
 have hBlt : ∀ h ∈ keysS B, h < rs.nx := fun h hm => by
  rcases Nat.lt_or_ge h rs.nx with hl | hl
  · exact hl
  · exact ((k2 h hm).2 (S0.fresh h hl)).elim
 have hroot : ∀ (k h : Nat), (rootsL S B)[k]? = some (some h) → ns'[k]? = some h ∧ h < rs.nx := fun k h hk => by
  unfold rootsL at hk
  by_cases hlt : k < nn (shS S)
  · rw [List.getElem?_append_left (by simpa using hlt), List.getElem?_replicate, if_pos hlt] at hk; cases hk
  · rw [List.getElem?_append_right (by simp; omega), List.length_replicate] at hk
    obtain ⟨g1, g2, _⟩ := m1 _ h hk
    refine ⟨?_, hBlt h g2⟩
    rw [e1, List.getElem?_append_right (by rw [car1.len]; omega), car1.len]; exact g1
 have hex_ge : ∀ h ∈ keysH ex', rs'.nx ≤ h := fun h hk => by
  obtain ⟨o, hm⟩ := mem_keys hk
  exact ((fromA_ex _ _ _ _ _ _ _ f1).2.2.1 h o hm).1
 have hns0 : ∀ h ∈ ns0, h < rs.nx → ∃ v, β0 h = some v := fun h hm hl => by
  rcases (fromA_ex _ _ _ _ _ _ _ f0).2.2.2 h hm with hne | hk
  · obtain ⟨v, hv, _⟩ := S0.inv.heap.sat h hne; exact ⟨v, hv⟩
  · obtain ⟨o, hm'⟩ := mem_keys hk
    have := ((fromA_ex _ _ _ _ _ _ _ f0).2.2.1 h o hm').1
    omega
 let hpr : Nat → HObj := fun h => if h ∈ ltN rs.nx ns0 then .dead else rs.hpf h
 obtain ⟨q1, q2, q3, q4⟩ := loop_rebind Hx car nd1 (fun h hm => (hns h hm).2) (R := rootsL S B) (nx := rs.nx) (rootsL_len S B) hroot hpr (fun h hge => by
     show (if h ∈ ltN rs.nx ns0 then HObj.dead else rs.hpf h) = .none
     rw [if_neg (fun hm => by have := (ltN_mem.1 hm).2; omega)]
     exact S0.fresh h hge) (fun h hl => by
     by_cases hm : h ∈ ns0
     · refine .inl ⟨if_pos (ltN_mem.2 ⟨hm, hl⟩), ?_⟩
       obtain ⟨v, hv⟩ := hns0 h hm hl
       exact ⟨v, lx h v (hb h v hv)⟩
     · have hpe : hpr h = rs.hpf h := if_neg (fun hm' => hm (ltN_mem.1 hm').1)
       have hke : h ∉ keysH ex' := fun hk => by have := hex_ge h hk; omega
       have hxe : hset rs'.hpf ex' h = rs.hpf h := by rw [hset_not hke]; exact hh h hl hm
       refine .inr ⟨hpe.trans hxe.symm, fun hm' => hm (hn h hm' hl), fun cs hcs n hnm => ?_⟩
       rw [hxe] at hcs
       obtain ⟨v, _, hsat⟩ := S0.inv.heap.sat h (by rw [hcs]; simp)
       rw [hcs] at hsat
       obtain ⟨b, l, _, hl', _⟩ := hsat
       rcases satL_nm cs (l := []) hl' n hnm with hc | hc
       · cases hc
       · obtain ⟨u, hu⟩ := Option.isSome_iff_exists.1 hc
         exact S0.lt hu)
 have hhp : ∀ h, (loopHead S B ds rs ns0 x').hpf h = hset hpr (intoH (nmL (rootsL S B) rs.nx) (shL S B) x' 0 []) h := fun h => by
  rw [hpf_hset]
  show hset (fun _ => HObj.none) (intoH (nmL (rootsL S B) rs.nx) (shL S B) x' 0 (deadL (ltN rs.nx ns0) rs.hp)) h = _
  rw [intoH_eq, intoH_eq, hset_zipN]
  refine hset_zip_congr _ _ (fun n => ?_) _ _
  rw [hset_deadL]
  show (if n ∈ ltN rs.nx ns0 then HObj.dead else hset (fun _ => HObj.none) rs.hp n) = (if n ∈ ltN rs.nx ns0 then HObj.dead else rs.hpf n)
  rw [hpf_hset]
 have hle0 : β0.le (βL βx (rootsL S B) ns' rs.nx) := fun h v e => by
  rw [q2 h (S0.lt e)]
  exact lx h v (hb h v e)
 obtain ⟨_, _, c3, _⟩ := car1.go (nmL (rootsL S B) rs.nx) 0 (βL βx (rootsL S B) ns' rs.nx) (fun k m hk => q3 k m (by rw [e1, List.getElem?_append_left (List.getElem?_eq_some_iff.1 hk).1]; exact hk))
 have hslots := putS_spec (a := a') S x'.1 0 (dropS ds rs.sl) (c3 _ (getS_sat S1 S))
 have hsl : ∀ s, ((loopHead S B ds rs ns0 x').slf s).path = [] ∧ sat ((loopHead S B ds rs ns0 x').slf s).ap (βL βx (rootsL S B) ns' rs.nx) G' (a'.tmps.getD s undef) := fun s => by
  show (match lookN (putS (nmL (rootsL S B) rs.nx) S x'.1 0 (dropS ds rs.sl)) s with | some p => p | none => (⟨[], .any⟩ : PA)).path = [] ∧ sat (match lookN (putS (nmL (rootsL S B) rs.nx) S x'.1 0 (dropS ds rs.sl)) s with | some p => p | none => (⟨[], .any⟩ : PA)).ap _ G' _
  cases hl : lookN (putS (nmL (rootsL S B) rs.nx) S x'.1 0 (dropS ds rs.sl)) s with
  | none => exact ⟨rfl, by unfold sat; trivial⟩
  | some p =>
   dsimp only
   rcases hslots s p hl with hp | hp
   · exact hp
   · obtain ⟨hd, hp⟩ := dropS_spec hp
     have hps : rs.slf s = p := by unfold RS.slf; rw [hp]
     have hfl := S0.flat s
     rw [hps] at hfl
     refine ⟨hfl, ?_⟩
     rw [hs s hd]
     have := ((S0.holds (fun _ => false)).slots s).1
     dsimp only at this
     rw [hps] at this
     exact sat.monoW _ (this (fun e he => by rw [hfl] at he; cases he)) hle0 hgl
 refine ⟨βL βx (rootsL S B) ns' rs.nx, ⟨fun γ => ⟨fun s => ⟨fun _ => (hsl s).2, fun hn => (hn (fun e he => ?_)).elim⟩, (S1.holds γ).size, (S1.holds γ).defers, ?_⟩, fun s => (hsl s).1, fun n hn => ?_, rfl, rfl, rfl⟩, hle0⟩
 · have := (hsl s).1
   have he' : e ∈ ((loopHead S B ds rs ns0 x').slf s).path := he
   rw [this] at he'; cases he'
 · show HInv C (loopHead S B ds rs ns0 x').hpf _ G'
   rw [funext hhp]; exact q1
 · rw [hhp]; exact q4 n hn
theorem loop_state {C0 C : Ctx} {rs : RS} {β0 : Asg} {a0 : Act} {G0 : GW} (S0 : Sim C0 rs β0 a0 G0) {S B : List (Nat × Sh)} {x0 : SDat (shL S B)} {ns0 : List Nat} {ex0 : List (Nat × HObj)} {n0 : Nat} (h0 : loopIn S B rs = some ⟨x0, ns0, ex0, n0⟩)
    {rs' : RS} {β' : Asg} {a' : Act} {G' : GW} (S1 : Sim C rs' β' a' G') (hb : β0.le β') (hgl : G0.le G') {x' : SDat (shL S B)} {ns' : List Nat} {ex' : List (Nat × HObj)} {n' : Nat} (h1 : loopIn S B rs' = some ⟨x', ns', ex', n'⟩) (hnx : rs.nx ≤ rs'.nx)
    (hh : ∀ h, h < rs.nx → h ∉ ns0 → rs'.hpf h = rs.hpf h) (hn : ∀ h ∈ ns', h < rs.nx → h ∈ ns0) (ds : List Nat) (hs : ∀ s, s ∉ ds → a'.tmps.getD s undef = a0.tmps.getD s undef) :
    ∃ β'', Sim C (loopHead S B ds rs ns0 x') β'' a' G' ∧ β0.le β'' := loop_stateW S0 h0 S1 hb hgl.w h1 hnx hh hn ds hs
end Go.Gv

/- A RANGE OVER A FUNCTION: the consumer as it waits, one round. -/
namespace Go.Gv
open Go
def toExit : Ex → Exit
 | .normal => .normal
 | .exit id => .exit id
 | .ret => .ret
def WpSound (P : Program) (c : Cf) (code : Code) : Prop :=
 ∀ (C : Ctx), GlobIs C c → C.N = c.N → C.m ≤ C.G0.w.heap.size → ∀ (r : Option Nat), (r = none ∨ noRF code = true) → ∀ (rs : RS) (K : Ex → RS → Prop) (β : Asg) (a : Act) (G : GW) (Q : Exit → Act → World → Prop), wpA c code rs K → Sim C rs β a G →
  (∀ e rs' β' a' G', K e rs' → Sim C rs' β' a' G' → β.le β' → G.le G' → Ext rs rs' → (∀ s, s ∉ dsts code [] → a'.tmps.getD s undef = a.tmps.getD s undef) → Q (toExit e) a' G'.w) → code.wpIn (WF r) 0 P Q a G.w
theorem globOK.monoW {t : Ty} {x : Dat t} {G G' : GW} {g : Nat} (h : globOK t x G g) (hg : G.leW G') : globOK t x G' g := by
 obtain ⟨⟨cells, h1, h2⟩, h3, h4⟩ := h
 exact ⟨⟨cells, h1.monoW hg, h2.monoW t hg⟩, (hg.1 g _ h3).1, (hg.1 g _ h3).2.trans h4⟩
def ctxSelf (hp : Nat → HObj) (β : Asg) (G : GW) (gl : Glob) (N : Nat) : Ctx :=
 { G0 := G, F0 := fun b o => ∃ h v, β h = some v ∧ fpc (hp h) v b o, Fo0 := fun b => ∃ h v, β h = some v ∧ fpo (hp h) v b, glob := gl, N := N }
theorem HInv.self {hp : Nat → HObj} {β : Asg} {G : GW} {gl : Glob} (N : Nat) (H : HeapOK hp β G) (hgl : ∀ g t x, gl g = some ⟨t, x⟩ → globOK t x G g) : HInv (ctxSelf hp β G gl N) hp β G :=
 ⟨H, Step.refl _ _ _, fun h v hv _ _ hf => .inl ⟨h, v, hv, hf⟩, fun h v hv _ hf => .inl ⟨h, v, hv, hf⟩, hgl⟩
structure Apart (hp : Nat → HObj) (β : Asg) (G : GW) (L : Nat) : Prop where
 im : ∀ o, ¬ G.im L o
 imo : ¬ G.imo L
 lt : L < G.w.heap.size
 dis : ∀ h v, β h = some v → ∀ o, ¬ fpc (hp h) v L o
 diso : ∀ h v, β h = some v → ¬ fpo (hp h) v L
def GW.lrec (G : GW) (L : Nat) (r : Loop) : GW := { G with w := G.w.putObj L (.loop r) }
theorem rec_step {G : GW} {L : Nat} {r r' : Loop} (h : G.w.heap[L]? = some (.loop r)) (hi : ¬ G.imo L) : Step (fun b _ => b = L) (fun b => b = L) G (G.lrec L r') := by
 have hne : ∀ b, b ≠ L → (G.lrec L r').w.heap[b]? = G.w.heap[b]? := fun b hb => World.putObj_heap_other hb
 have hcells : ∀ b o, (G.lrec L r').w.cell? ⟨b, o, none⟩ = G.w.cell? ⟨b, o, none⟩ ∧ (G.lrec L r').w.frozen? ⟨b, o, none⟩ = G.w.frozen? ⟨b, o, none⟩ := fun b o => by
  by_cases e : b = L
  · subst e
    have h1 : (G.lrec b r').w.heap[b]? = some (.loop r') := World.putObj_heap_same (Array.getElem?_eq_some_iff.1 h).1
    have k1 : (G.lrec b r').w.cell? ⟨b, o, none⟩ = none ∧ (G.lrec b r').w.frozen? ⟨b, o, none⟩ = false := by
     simp [World.cell?, World.frozen?, h1]
    have k2 : G.w.cell? ⟨b, o, none⟩ = none ∧ G.w.frozen? ⟨b, o, none⟩ = false := by
     simp [World.cell?, World.frozen?, h]
    exact ⟨k1.1.trans k2.1.symm, k1.2.trans k2.2.symm⟩
  · simp only [World.cell?, World.frozen?, hne b e]
    exact ⟨trivial, trivial⟩
 exact {
  os := rfl
  tape := rfl
  output := rfl
  size := by show _ ≤ (G.w.putObj L _).heap.size; simp
  cell := fun b o _ _ => hcells b o
  blk := fun b _ hn _ => hne b (hn 0)
  obj := fun b es0 c0 hno he => (hne b hno).trans he
  le := ⟨fun b o hi => ⟨hi, (hcells b o).1⟩, fun b hb => ⟨hb, hne b (fun e => hi (e ▸ hb))⟩⟩
  new := fun _ _ hi => .inl hi
  newo := fun _ hi => .inl hi
  drawn := .inl (Nat.le_refl _)
  nz := rfl }
theorem OldOK.lrec {G : GW} {L : Nat} {r r' : Loop} (O : OldOK G) (h : G.w.heap[L]? = some (.loop r)) (hi : ¬ G.imo L) : OldOK (G.lrec L r') :=
 ⟨fun b o hb => Nat.lt_of_lt_of_le (O.old b o hb) (rec_step (r' := r') h hi).size, fun b hb => by
  obtain ⟨o, e, k⟩ := O.oldo b hb
  exact ⟨o, ((rec_step (r' := r') h hi).le.2 b hb).2.trans e, k⟩⟩
theorem HeapJ.lrec {hp : Nat → HObj} {β : Asg} {G : GW} {L : Nat} {r r' : Loop} (H : HeapJ hp β G) (A : Apart hp β G L) (h : G.w.heap[L]? = some (.loop r)) : HeapJ hp β (G.lrec L r') :=
 H.keep (rec_step h A.imo).w (fun n v hv b o hf e => by subst e; exact A.dis n v hv o hf) (fun n v hv b hf e => by subst e; exact A.diso n v hv hf)
theorem Apart.lrec {hp : Nat → HObj} {β : Asg} {G : GW} {L : Nat} {r' : Loop} (A : Apart hp β G L) : Apart hp β (G.lrec L r') L :=
 ⟨A.im, A.imo, by show L < (G.w.putObj L _).heap.size; simpa using A.lt, A.dis, A.diso⟩
theorem Apart.run {hp0 : Nat → HObj} {β0 : Asg} {G0 : GW} {gl : Glob} {N L : Nat} (A : Apart hp0 β0 G0 L) {hp : Nat → HObj} {β : Asg} {G : GW} (H : HInv (ctxSelf hp0 β0 G0 gl N) hp β G) : Apart hp β G L ∧ G.w.heap[L]? = G0.w.heap[L]? := by
 have hF : ∀ o, ¬ (ctxSelf hp0 β0 G0 gl N).F0 L o := fun o ⟨h, v, hv, hf⟩ => A.dis h v hv o hf
 have hFo : ¬ (ctxSelf hp0 β0 G0 gl N).Fo0 L := fun ⟨h, v, hv, hf⟩ => A.diso h v hv hf
 have hlt : L < (ctxSelf hp0 β0 G0 gl N).G0.w.heap.size := A.lt
 refine ⟨⟨fun o hi => ?_, fun hi => ?_, Nat.lt_of_lt_of_le A.lt H.step.size, fun h v hv o hf => ?_, fun h v hv hf => ?_⟩, H.step.blk L A.lt hF hFo⟩
 · rcases H.step.new L o hi with k | k | k
   · exact A.im o k
   · exact hF o k
   · omega
 · rcases H.step.newo L hi with k | k | k
   · exact A.imo k
   · exact hFo k
   · omega
 · rcases H.own h v hv L o hf with k | k
   · exact hF o k
   · omega
 · rcases H.owno h v hv L hf with k | k
   · exact hFo k
   · omega
theorem Sim.lrec {C : Ctx} {rs : RS} {β : Asg} {a : Act} {G : GW} (S : Sim C rs β a G) {L : Nat} {r : Loop} (r' : Loop) (A : Apart rs.hpf β G L) (h : G.w.heap[L]? = some (.loop r)) : Sim (ctxSelf rs.hpf β (G.lrec L r') C.glob C.N) rs β a (G.lrec L r') := by
 have hs := rec_step (r' := r') h A.imo
 have H1 : HeapOK rs.hpf β (G.lrec L r') := (S.inv.heap.j.lrec A h).ok (S.inv.heap.o.lrec h A.imo)
 refine ⟨fun γ => ⟨fun s => ((S.holds γ).slots s).mono (Asg.le_refl β) hs.le, (S.holds γ).size, ?_, HInv.self _ H1 (fun g t x hx => (S.inv.glob g t x hx).mono hs.le)⟩, S.flat, S.fresh, S.gd, S.vc, S.tr⟩
 exact ((S.holds γ).defers.mono hs.le).zero
def mkEater (gl : Glob) (nz : Bool) (L : Nat) (rec : Loop) (G0 : GW) (hp : Nat → HObj) (β : Asg) : Eater where
 F := fun b o => b = L ∨ ∃ h v, β h = some v ∧ fpc (hp h) v b o
 Fo := fun b => b = L ∨ ∃ h v, β h = some v ∧ fpo (hp h) v b
 J := fun v G => v = .func (.yield L) #[] #[] ∧ G.w.heap[L]? = some (.loop rec) ∧ Apart hp β G L ∧ HeapJ hp β G ∧ (∀ g t x, gl g = some ⟨t, x⟩ → globOK t x G g) ∧ (nz = true → G.nz) ∧ G0.leW G
 stab := fun v G G' F' Fo' ⟨h1, h2, A, h3, h4, h5, h6⟩ hs hF hFo => by
  have k1 := hF L 0 (.inl rfl)
  have k2 : ∀ o, ¬ F' L o := fun o => (hF L o (.inl rfl)).1
  have k3 : ¬ Fo' L := (hFo L (.inl rfl)).1
  refine ⟨h1, (hs.blk L A.lt k2 k3).trans h2, ⟨fun o hi => ?_, fun hi => ?_, Nat.lt_of_lt_of_le A.lt hs.size, A.dis, A.diso⟩, h3.keep hs (fun n v hv b o hf => (hF b o (.inr ⟨n, v, hv, hf⟩)).1) (fun n v hv b hf => (hFo b (.inr ⟨n, v, hv, hf⟩)).1),
   fun g t x hx => (h4 g t x hx).monoW hs.le, fun hn => by rw [hs.nz]; exact h5 hn, GW.leW_trans h6 hs.le⟩
  · rcases hs.new L o hi with k | k | k
    · exact A.im o k
    · exact k2 o k
    · have := A.lt; omega
  · rcases hs.newo L hi with k | k | k
    · exact A.imo k
    · exact k3 k
    · have := A.lt; omega
theorem satD_len : ∀ {ts : List Ty} {y : TDat ts} {G : GW} {vs : List Value}, satD ts y G vs → vs.length = ts.length
 | [], _, _, _, h => by unfold satD at h; rw [h]; rfl
 | _ :: _, _, _, _, ⟨_, _, e, _, h⟩ => by rw [e]; simp [satD_len h]
theorem psOK_len {N : Nat} : ∀ {ps : List Nat} {ts : List Ty}, psOK N ps ts = true → ps.length = ts.length
 | [], [], _ => rfl
 | [], _ :: _, h => by simp [psOK] at h
 | _ :: _, [], h => by simp [psOK] at h
 | s :: l, t :: r, h => by
  unfold psOK at h
  split at h
  · simp [psOK_len h]
  · cases h
theorem fold_size (l : List (Nat × Value)) : ∀ (tmps : Array Value), (l.foldl (fun (tmps : Array Value) (p : Nat × Value) => tmps.setIfInBounds p.1 p.2) tmps).size = tmps.size := by
 induction l with
 | nil => intro tmps; rfl
 | cons e r ih => intro tmps; rw [List.foldl_cons, ih]; simp
theorem fold_not (l : List (Nat × Value)) : ∀ (tmps : Array Value) (s : Nat), (∀ e ∈ l, e.1 ≠ s) → (l.foldl (fun (tmps : Array Value) (p : Nat × Value) => tmps.setIfInBounds p.1 p.2) tmps).getD s undef = tmps.getD s undef := by
 induction l with
 | nil => intro tmps s _; rfl
 | cons e r ih =>
  intro tmps s h
  rw [List.foldl_cons, ih _ s (fun e' he => h e' (List.mem_cons_of_mem _ he))]
  have := h e List.mem_cons_self
  simp only [Array.getD_eq_getD_getElem?, Array.getElem?_setIfInBounds_ne this]
theorem putT_spec {N : Nat} {β : Asg} {G : GW} : ∀ {ps : List Nat} {ts : List Ty} {y : TDat ts} {vs : List Value} {tmps : Array Value} (k : List (Nat × PA)), psOK N ps ts = true → satD ts y G vs → tmps.size = N →
    ∀ s p, lookN (putT ps ts y k) s = some p → (p.path = [] ∧ sat p.ap β G (((ps.zip vs).foldl (fun (tmps : Array Value) (p : Nat × Value) => tmps.setIfInBounds p.1 p.2) tmps).getD s undef)) ∨
     (((ps.zip vs).foldl (fun (tmps : Array Value) (p : Nat × Value) => tmps.setIfInBounds p.1 p.2) tmps).getD s undef = tmps.getD s undef ∧ lookN k s = some p)
 | [], [], y, vs, tmps, k, _, _, _, s, p, h => .inr ⟨by rw [List.zip_nil_left]; rfl, by simpa [putT] using h⟩
 | [], _ :: _, _, _, _, _, h, _, _, _, _, _ => by simp [psOK] at h
 | _ :: _, [], _, _, _, _, h, _, _, _, _, _ => by simp [psOK] at h
 | q :: l, t :: r, y, vs, tmps, k, hp, hs, hN, s, p, h => by
  unfold psOK at hp
  split at hp
  · rename_i hlt hnm
    obtain ⟨v, vs', rfl, hv, hs⟩ := hs
    have hlt : q < N := Nat.le_of_ble_eq_true hlt
    unfold putT at h
    rw [lookN_cons] at h
    rw [List.zip_cons_cons, List.foldl_cons]
    by_cases e : s = q
    · rw [if_pos e] at h
      simp only [Option.some.injEq] at h; subst h
      refine .inl ⟨rfl, ?_⟩
      subst e
      rw [fold_not _ _ s (fun e' he hq => by
       have h1 := (List.of_mem_zip (show (e'.1, e'.2) ∈ l.zip vs' from he)).1
       rw [hq] at h1
       rw [memN_iff.2 h1] at hnm; cases hnm)]
      unfold sat
      simp only [Array.getD_eq_getD_getElem?, Array.getElem?_setIfInBounds_self_of_lt (show s < tmps.size by omega)]
      exact hv
    · rw [if_neg e] at h
      rcases putT_spec (tmps := tmps.setIfInBounds q v) k hp hs (by simp [hN]) s p h with h1 | ⟨h1, h2⟩
      · exact .inl h1
      · refine .inr ⟨h1.trans ?_, h2⟩
        have hne : q ≠ s := fun h => e h.symm
        simp only [Array.getD_eq_getD_getElem?, Array.getElem?_setIfInBounds_ne hne]
  · cases hp
theorem dropS_nil : ∀ (l : List (Nat × PA)), dropS [] l = l
 | [] => rfl
 | (s, p) :: r => by simp only [dropS, memN, dropS_nil r]
theorem head_sl {B : List (Nat × Sh)} {rs : RS} {ns : List Nat} {x : SDat (shL [] B)} : (loopHead [] B [] rs ns x).sl = rs.sl := by
 unfold loopHead putS
 exact dropS_nil _
theorem round_sl {ts : List Ty} {B : List (Nat × Sh)} {ps : List Nat} {rs : RS} {ns : List Nat} {y : TDat ts} {x : SDat (shL [] B)} : (roundHead ts B ps rs ns y x).sl = putT ps ts y rs.sl := by
 show putT ps ts y (loopHead [] B [] rs ns x).sl = _
 rw [head_sl]
end Go.Gv
