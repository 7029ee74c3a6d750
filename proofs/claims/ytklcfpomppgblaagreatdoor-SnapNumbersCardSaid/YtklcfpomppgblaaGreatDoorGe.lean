/- A verified generator of conditions over the code of the model. Part 5. -/
import Derived.Test.YtklcfpomppgblaaGreatDoorGd
import Derived.RangeFuncRecord
import Derived.OrdersIn
import Derived.TacticsIn
set_option linter.all false

/- A call of a function that keeps its contract. -/
namespace Go.Gv
open Go
theorem nodup_at : ∀ {l : List Nat}, l.Nodup → ∀ {i j m : Nat}, l[i]? = some m → l[j]? = some m → i = j
 | [], _, i, j, m, h, _ => by simp at h
 | a :: l, hn, 0, 0, m, _, _ => rfl
 | a :: l, hn, 0, j + 1, m, h, h' => by
  simp at h; subst h
  exact ((List.nodup_cons.1 hn).1 (List.mem_of_getElem? (by simpa using h'))).elim
 | a :: l, hn, i + 1, 0, m, h, h' => by
  simp at h'; subst h'
  exact ((List.nodup_cons.1 hn).1 (List.mem_of_getElem? (by simpa using h))).elim
 | a :: l, hn, i + 1, j + 1, m, h, h' => by
  have : i = j := nodup_at (List.nodup_cons.1 hn).2 (m := m) (by simpa using h) (by simpa using h')
  rw [this]
theorem mem_keys {l : List (Nat × HObj)} {h : Nat} (hk : h ∈ keysH l) : ∃ o, (h, o) ∈ l := by
 obtain ⟨⟨a, o⟩, hm, rfl⟩ := List.mem_map.1 hk
 exact ⟨o, hm⟩
theorem keys_mem {l : List (Nat × HObj)} {h : Nat} {o : HObj} (hm : (h, o) ∈ l) : h ∈ keysH l := List.mem_map.2 ⟨(h, o), hm, rfl⟩
theorem take_in {C : Ctx} {hp : Nat → HObj} {β : Asg} {G : GW} (H : HInv C hp β G) {nx : Nat} (hfr : ∀ n, nx ≤ n → hp n = .none) {s : Sh} {X : AP} {x : SDat s} {ns : List Nat} {ex : List (Nat × HObj)} {nx1 : Nat}
    (hfa : fromA hp s X nx = some ⟨x, ns, ex, nx1⟩) : ∃ βx, HInv C (hset hp ex) βx G ∧ β.le βx ∧ Carried (hset hp ex) βx β G s X x ns ∧ nx ≤ nx1 ∧ (∀ h ∈ ns, h < nx1 ∧ hset hp ex h ≠ .none) ∧ (∀ n, nx1 ≤ n → hset hp ex n = .none) ∧
     (∀ h o, (h, o) ∈ ex → h ∈ ns) ∧ ns.length = nn s ∧ (∀ h, hp h ≠ .none → βx h = β h ∧ hset hp ex h = hp h) ∧ (∀ h o, (h, o) ∈ ex → βx h = some (.slice none 0 0) ∧ hset hp ex h = o) := by
 obtain ⟨e1, e2, e3, e4⟩ := fromA_ex s X nx x ns ex nx1 hfa
 obtain ⟨βx, Hx, lx, hx1, hx2⟩ := HInv.ext ex H e2 (fun h o hm => ⟨hfr h (e3 h o hm).1, (e3 h o hm).2.2⟩)
 have hin : ∀ h ∈ keysH ex, hset hp ex h ≠ .none := fun h hk => by
  obtain ⟨o, hm⟩ := mem_keys hk
  rw [hset_nodup e2 hm]
  rcases (e3 h o hm).2.2 with ⟨t, rfl⟩ | ⟨t, rfl⟩ <;> simp
 have hold : ∀ h, hp h ≠ .none → βx h = β h ∧ hset hp ex h = hp h := fun h hne => by
  have hnk : h ∉ keysH ex := fun hk => by
   obtain ⟨o, hm⟩ := mem_keys hk
   exact hne (hfr h (e3 h o hm).1)
  exact ⟨hx2 h hnk, hset_not hnk⟩
 have hexs : ∀ h o, (h, o) ∈ ex → βx h = some (.slice none 0 0) ∧ hset hp ex h = o := fun h o hm => ⟨hx1 h o hm, hset_nodup e2 hm⟩
 refine ⟨βx, Hx, lx, fromA_trans H.hs hold s X nx x ns ex nx1 hfa hexs, e1, fun h hm => ?_, fun n hn => ?_, ?_, fromA_len hp s X nx x ns ex nx1 hfa, hold, hexs⟩
 · rcases e4 h hm with hne | hk
   · have hlt : h < nx := by
      rcases Nat.lt_or_ge h nx with hl | hl
      · exact hl
      · exact (hne (hfr h hl)).elim
     refine ⟨by omega, ?_⟩
     have hnk : h ∉ keysH ex := fun hk => by
      obtain ⟨o, hm⟩ := mem_keys hk
      exact hne (hfr h (e3 h o hm).1)
     rw [hset_not hnk]; exact hne
   · obtain ⟨o, hm⟩ := mem_keys hk
     exact ⟨(e3 h o hm).2.1, hin h hk⟩
 · have hnk : n ∉ keysH ex := fun hk => by
    obtain ⟨o, hm⟩ := mem_keys hk
    have := (e3 n o hm).2.1; omega
   rw [hset_not hnk]; exact hfr n (by omega)
 · exact exNames s X nx x ns ex nx1 hfa
where
 exNames {hp : Nat → HObj} : ∀ (s : Sh) (X : AP) (nx : Nat) (x : SDat s) (ns : List Nat) (ex : List (Nat × HObj)) (nx' : Nat), fromA hp s X nx = some ⟨x, ns, ex, nx'⟩ → ∀ h o, (h, o) ∈ ex → h ∈ ns := by
  intro s
  induction s with
  | d t =>
   intro X nx x ns ex nx' h
   unfold fromA at h
   split at h
   · simp only [Option.some.injEq, Fr.mk.injEq] at h; obtain ⟨rfl, rfl, rfl, rfl⟩ := h; exact fun _ _ hm => by cases hm
   · cases h
  | row t =>
   intro X nx x ns ex nx' h
   unfold fromA at h
   split at h
   · split at h
     · split at h
       · simp only [Option.some.injEq, Fr.mk.injEq] at h; obtain ⟨rfl, rfl, rfl, rfl⟩ := h; exact fun _ _ hm => by cases hm
       · cases h
     · cases h
   · simp only [Option.some.injEq, Fr.mk.injEq] at h; obtain ⟨rfl, rfl, rfl, rfl⟩ := h
     exact fun _ _ hm => by rw [List.mem_singleton] at hm; cases hm; simp
   · cases h
  | take t =>
   intro X nx x ns ex nx' h
   unfold fromA at h
   split at h
   · split at h
     · split at h
       · simp only [Option.some.injEq, Fr.mk.injEq] at h; obtain ⟨rfl, rfl, rfl, rfl⟩ := h; exact fun _ _ hm => by cases hm
       · cases h
     · cases h
   · simp only [Option.some.injEq, Fr.mk.injEq] at h; obtain ⟨rfl, rfl, rfl, rfl⟩ := h
     exact fun _ _ hm => by rw [List.mem_singleton] at hm; cases hm; simp
   · cases h
  | spare t =>
   intro X nx x ns ex nx' h
   unfold fromA at h
   split at h
   · split at h
     · split at h
       · simp only [Option.some.injEq, Fr.mk.injEq] at h; obtain ⟨rfl, rfl, rfl, rfl⟩ := h; exact fun _ _ hm => by cases hm
       · cases h
     · cases h
   · simp only [Option.some.injEq, Fr.mk.injEq] at h; obtain ⟨rfl, rfl, rfl, rfl⟩ := h
     exact fun _ _ hm => by rw [List.mem_singleton] at hm; cases hm; simp
   · cases h
  | map k v =>
   intro X nx x ns ex nx' h
   unfold fromA at h
   split at h
   · split at h
     · split at h
       · simp only [Option.some.injEq, Fr.mk.injEq] at h; obtain ⟨rfl, rfl, rfl, rfl⟩ := h; exact fun _ _ hm => by cases hm
       · cases h
     · cases h
   · cases h
  | ob κ =>
   intro X nx x ns ex nx' h
   unfold fromA at h
   split at h
   · split at h
     · split at h
       · simp only [Option.some.injEq, Fr.mk.injEq] at h; obtain ⟨rfl, rfl, rfl, rfl⟩ := h; exact fun _ _ hm => by cases hm
       · cases h
     · cases h
   · cases h
  | box cs ih =>
   intro X nx x ns ex nx' h
   unfold fromA at h
   split at h
   · split at h
     · split at h
       · rename_i hy
         simp only [Option.some.injEq, Fr.mk.injEq] at h; obtain ⟨rfl, rfl, rfl, rfl⟩ := h
         exact fun h o hm => List.mem_cons_of_mem _ (ih _ _ _ _ _ _ hy h o hm)
       · cases h
     · cases h
   · cases h
  | clos f cs ih =>
   intro X nx x ns ex nx' h
   unfold fromA at h
   split at h
   · split at h
     · split at h
       · rename_i hy
         simp only [Option.some.injEq, Fr.mk.injEq] at h; obtain ⟨rfl, rfl, rfl, rfl⟩ := h
         exact ih _ _ _ _ _ _ hy
       · cases h
     · cases h
   · cases h
  | agg cs ih =>
   intro X nx x ns ex nx' h
   unfold fromA at h
   split at h
   · split at h
     · rename_i hy
       simp only [Option.some.injEq, Fr.mk.injEq] at h; obtain ⟨rfl, rfl, rfl, rfl⟩ := h
       exact ih _ _ _ _ _ _ hy
     · cases h
   · cases h
  | self f cs ih =>
   intro X nx x ns ex nx' h
   unfold fromA at h
   split at h
   · split at h
     · split at h
       · split at h
         · rename_i hy _
           simp only [Option.some.injEq, Fr.mk.injEq] at h; obtain ⟨rfl, rfl, rfl, rfl⟩ := h
           exact fun h o hm => List.mem_cons_of_mem _ (ih _ _ _ _ _ _ hy h o hm)
         · cases h
       · cases h
     · cases h
   · cases h
  | nilp =>
   intro X nx x ns ex nx' h
   unfold fromA at h
   split at h
   · simp only [Option.some.injEq, Fr.mk.injEq] at h; obtain ⟨_, rfl, rfl, rfl⟩ := h; exact fun _ _ hm => by cases hm
   · cases h
  | nils =>
   intro X nx x ns ex nx' h
   unfold fromA at h
   split at h
   · simp only [Option.some.injEq, Fr.mk.injEq] at h; obtain ⟨_, rfl, rfl, rfl⟩ := h; exact fun _ _ hm => by cases hm
   · cases h
  | nil =>
   intro X nx x ns ex nx' h
   unfold fromA at h
   split at h
   · simp only [Option.some.injEq, Fr.mk.injEq] at h; obtain ⟨_, rfl, rfl, rfl⟩ := h; exact fun _ _ hm => by cases hm
   · cases h
  | cons a b iha ihb =>
   intro X nx x ns ex nx' h
   unfold fromA at h
   split at h
   · split at h
     · rename_i hy
       split at h
       · rename_i hz
         simp only [Option.some.injEq, Fr.mk.injEq] at h; obtain ⟨rfl, rfl, rfl, rfl⟩ := h
         intro h o hm
         rcases List.mem_append.1 hm with hm | hm
         · exact List.mem_append_left _ (iha _ _ _ _ _ _ hy h o hm)
         · exact List.mem_append_right _ (ihb _ _ _ _ _ _ hz h o hm)
       · cases h
     · cases h
   · cases h
theorem canon_inv {C : Ctx} {hpx : Nat → HObj} {βx β : Asg} {G : GW} (Hx : HInv C hpx βx G) {s : Sh} {X : AP} {x : SDat s} {ns : List Nat} (c : Carried hpx βx β G s X x ns) (hnd : ns.Nodup) :
    HInv { G0 := G, F0 := fun b i => ∃ h v, h ∈ ns ∧ βx h = some v ∧ fpc (hpx h) v b i, Fo0 := fun b => ∃ h v, h ∈ ns ∧ βx h = some v ∧ fpo (hpx h) v b, glob := C.glob, N := C.N } (canon s x) (fun k => (ns[k]?).bind βx) G := by
 obtain ⟨_, _, _, c4⟩ := c.go (fun k => k) 0 (fun k => (ns[k]?).bind βx) (fun k h hk => by simp [hk])
 have hlen := objsA_len (fun k => k) s x 0
 have hob : ∀ k h, ns[k]? = some h → ∃ o v, canon s x k = o ∧ βx h = some v ∧ ObjOK (fun k => (ns[k]?).bind βx) G hpx v h o := fun k h hk => by
  have hlt : k < (objsA (fun k => k) s x 0).length := by rw [hlen, ← c.len]; exact (List.getElem?_eq_some_iff.1 hk).1
  obtain ⟨v, hv, ho⟩ := c4 k h _ hk (List.getElem?_eq_getElem hlt)
  exact ⟨_, v, canon_at s x (List.getElem?_eq_getElem hlt), hv, ho⟩
 have hsrc : ∀ h v, (ns[h]?).bind βx = some v → ∃ m, ns[h]? = some m ∧ βx m = some v ∧ (∀ b i, fpc (canon s x h) v b i → fpc (hpx m) v b i) ∧ (∀ b, fpo (canon s x h) v b → fpo (hpx m) v b) := fun k v hv => by
  rw [Option.bind_eq_some_iff] at hv
  obtain ⟨m, hm, hv⟩ := hv
  obtain ⟨o, v', ho, hv', hok⟩ := hob k m hm
  rw [hv] at hv'; cases hv'
  exact ⟨m, hm, hv, fun b i hf => hok.fc b i (by rw [← ho]; exact hf), fun b hf => hok.fo b (by rw [← ho]; exact hf)⟩
 have hh : HeapOK (canon s x) (fun k => (ns[k]?).bind βx) G := Hx.heap.rebind _ _ (fun k m => ns[k]? = some m) (fun k hn => by
     cases hk : ns[k]? with
     | none => rfl
     | some m => obtain ⟨o, v, ho, _, hok⟩ := hob k m hk; exact (hok.ne (ho.symm.trans hn)).elim) (fun k hn => by
     cases hk : ns[k]? with
     | none => exact (hn (canon_out s x (by rw [← c.len]; rcases Nat.lt_or_ge k ns.length with h | h; · rw [List.getElem?_eq_getElem h] at hk; cases hk
                                            · exact h))).elim
     | some m =>
      obtain ⟨o, v, ho, hv, hok⟩ := hob k m hk
      refine ⟨v, by simp [hv], ?_⟩
      rw [ho]; exact hok.sat) (fun k v hv _ => by
     obtain ⟨m, h1, h2, h3, h4⟩ := hsrc k v hv
     exact ⟨m, h1, h2, h3, h4⟩) (fun h h' m e e' => by
     exact nodup_at hnd e e')
 refine ⟨hh, Step.refl _ _ _, fun k v hv b i hf => ?_, fun k v hv b hf => ?_, fun g t x h => ?_⟩
 · obtain ⟨m, h1, h2, h3, _⟩ := hsrc k v hv
   exact .inl ⟨m, v, List.mem_of_getElem? h1, h2, h3 b i hf⟩
 · obtain ⟨m, h1, h2, _, h4⟩ := hsrc k v hv
   exact .inl ⟨m, v, List.mem_of_getElem? h1, h2, h4 b hf⟩
 · exact Hx.glob g t x h
structure Back (R : List (Option Nat)) (ns ms os : List Nat) (nx nb : Nat) : Prop where
 root : ∀ (j k : Nat), R[j]? = some (some k) → ms[j]? = some k ∧ k < ns.length
 len : R.length = nb
 mlen : ms.length = nb
 nlt : ∀ h ∈ ns, h < nx
 nnd : ns.Nodup
 snd : (os ++ ms).Nodup
theorem nmBack_root {R : List (Option Nat)} {ns : List Nat} {nx j k : Nat} (h : R[j]? = some (some k)) : nmBack R ns nx j = ns.getD k 0 := by
 unfold nmBack; rw [List.getD_eq_getElem?_getD, h]; rfl
theorem nmBack_new {R : List (Option Nat)} {ns : List Nat} {nx j : Nat} (h : ∀ k, R[j]? ≠ some (some k)) : nmBack R ns nx j = nx + j := by
 unfold nmBack
 rw [List.getD_eq_getElem?_getD]
 cases hr : R[j]? with
 | none => rfl
 | some o =>
  cases o with
  | none => rfl
  | some k => exact (h k hr).elim
theorem getD_at {l : List Nat} {k : Nat} (h : k < l.length) : l[k]? = some (l.getD k 0) := by
 rw [List.getD_eq_getElem?_getD, List.getElem?_eq_getElem h]; rfl
noncomputable def β2of (βx β1 : Asg) (R : List (Option Nat)) (ms os : List Nat) (nx nb : Nat) : Asg := fun h =>
 if h < nx then βx h
 else if h < nx + nb then (match R.getD (h - nx) none with
  | some _ => none
  | none => (ms[h - nx]?).bind β1)
 else (os[h - nx - nb]?).bind β1
theorem give_back {C : Ctx} {hpx : Nat → HObj} {βx : Asg} {G : GW} (Hx : HInv C hpx βx G) {ns : List Nat} {nx nb : Nat} {C1 : Ctx} (hC : C1.G0 = G) (hF : ∀ b i, C1.F0 b i → ∃ h v, h ∈ ns ∧ βx h = some v ∧ fpc (hpx h) v b i) (hFo : ∀ b, C1.Fo0 b → ∃ h v, h ∈ ns ∧ βx h = some v ∧ fpo (hpx h) v b)
    {hp1 : Nat → HObj} {β1 : Asg} {G1 : GW} (H1 : HInv C1 hp1 β1 G1) {R : List (Option Nat)} {ms os : List Nat} (B : Back R ns ms os nx nb) (hfx : ∀ n, nx ≤ n → hpx n = .none) (hns : ∀ h ∈ ns, hpx h ≠ .none)
    (hkeep : ∀ k h v, ns[k]? = some h → βx h = some v → β1 k = some v) {s t : Sh} {z : SDat s} {y : SDat t} (hs : nn s = nb) (ht : os.length = nn t) {Xs Xt : AP} {βo : Asg} (c : Carried hp1 β1 βo G1 s Xs z ms) (d : Carried hp1 β1 βo G1 t Xt y os)
    (hp2 : Nat → HObj) (hp2e : ∀ h, hp2 h = hset hpx (intoH (nmBack R ns nx) s z 0 (intoH (fun k => nx + nb + k) t y 0 (deadL ns []))) h) :
    HInv C hp2 (β2of βx β1 R ms os nx nb) G1 ∧ βx.le (β2of βx β1 R ms os nx nb) ∧
     (∀ v, sat Xt βo G1 v → sat (intoA (fun k => nx + nb + k) t y 0) (β2of βx β1 R ms os nx nb) G1 v) ∧ (∀ l : List Value, satT Xt βo G1 l → satT (intoA (fun k => nx + nb + k) t y 0) (β2of βx β1 R ms os nx nb) G1 l) := by
 have hle : βx.le (β2of βx β1 R ms os nx nb) := fun h v e => by
  unfold β2of
  split
  · exact e
  · rename_i hlt
    rw [Hx.heap.no h (hfx h (by omega))] at e; cases e
 have agB : ∀ (j m : Nat), ms[j]? = some m → β2of βx β1 R ms os nx nb (nmBack R ns nx (0 + j)) = β1 m := fun j m hm => by
  rw [Nat.zero_add]
  have hj : j < nb := by rw [← B.mlen]; exact (List.getElem?_eq_some_iff.1 hm).1
  by_cases hr : ∃ k, R[j]? = some (some k)
  · obtain ⟨k, hr⟩ := hr
    obtain ⟨hmk, hk⟩ := B.root j k hr
    rw [hm] at hmk; cases hmk
    rw [nmBack_root hr]
    have hnk := getD_at hk
    have hmem := List.mem_of_getElem? hnk
    obtain ⟨v, hv, _⟩ := Hx.heap.sat _ (hns _ hmem)
    unfold β2of
    rw [if_pos (B.nlt _ hmem), hv, hkeep _ _ v hnk hv]
  · have hr' : ∀ k, R[j]? ≠ some (some k) := fun k e => hr ⟨k, e⟩
    rw [nmBack_new hr']
    unfold β2of
    rw [if_neg (by omega), if_pos (by omega), show nx + j - nx = j by omega, hm]
    have : R.getD j none = none := by
     rw [List.getD_eq_getElem?_getD]
     cases hrj : R[j]? with
     | none => rfl
     | some o =>
      cases o with
      | none => rfl
      | some k => exact (hr' k hrj).elim
    rw [this]; rfl
 have agO : ∀ (k m : Nat), os[k]? = some m → β2of βx β1 R ms os nx nb ((fun k => nx + nb + k) (0 + k)) = β1 m := fun k m hm => by
  show β2of βx β1 R ms os nx nb (nx + nb + (0 + k)) = β1 m
  unfold β2of
  rw [if_neg (by omega), if_neg (by omega), show nx + nb + (0 + k) - nx - nb = k by omega, hm]; rfl
 obtain ⟨_, _, _, c4⟩ := c.go (nmBack R ns nx) 0 _ agB
 obtain ⟨d1, _, d3, d4⟩ := d.go (fun k => nx + nb + k) 0 _ agO
 have hlB := objsA_len (nmBack R ns nx) s z 0
 have hlO := objsA_len (fun k => nx + nb + k) t y 0
 -- what the new heap holds
 have hview : ∀ h, (∃ j m v, ms[j]? = some m ∧ h = nmBack R ns nx j ∧ β1 m = some v ∧ ObjOK (β2of βx β1 R ms os nx nb) G1 hp1 v m (hp2 h) ∧ β2of βx β1 R ms os nx nb h = some v) ∨
     (∃ k m v, os[k]? = some m ∧ h = nx + nb + k ∧ β1 m = some v ∧ ObjOK (β2of βx β1 R ms os nx nb) G1 hp1 v m (hp2 h) ∧ β2of βx β1 R ms os nx nb h = some v) ∨
     (h ∈ ns ∧ hp2 h = .dead) ∨ (h ∉ ns ∧ hp2 h = hpx h ∧ (∀ j, j < nb → h ≠ nmBack R ns nx j) ∧ ∀ k, k < nn t → h ≠ nx + nb + k) := fun h => by
  rw [hp2e h, intoH_eq, intoH_eq]
  rcases hset_zipN_cases (nmBack R ns nx) hpx (objsA (nmBack R ns nx) s z 0) 0 (zipN (fun k => nx + nb + k) (objsA (fun k => nx + nb + k) t y 0) 0 (deadL ns [])) h with ⟨j, o, h1, h2, h3⟩ | ⟨h1, h2⟩
  · rw [Nat.zero_add] at h2
    have hj : j < ms.length := by rw [c.len, ← hlB]; exact (List.getElem?_eq_some_iff.1 h1).1
    have hm := getD_at hj
    obtain ⟨v, hv, ho⟩ := c4 j _ o hm h1
    refine .inl ⟨j, _, v, hm, h2, hv, ?_, ?_⟩
    · rw [h3]; exact ho
    · have := agB j _ hm
      rw [Nat.zero_add] at this
      rw [h2, this]; exact hv
  · rw [h2]
    have h1' : ∀ j, j < nb → h ≠ nmBack R ns nx j := fun j hj => by
     have := h1 j (by rw [hlB, hs]; exact hj)
     rwa [Nat.zero_add] at this
    rcases hset_zipN_cases (fun k => nx + nb + k) hpx (objsA (fun k => nx + nb + k) t y 0) 0 (deadL ns []) h with ⟨k, o, g1, g2, g3⟩ | ⟨g1, g2⟩
    · rw [Nat.zero_add] at g2
      have hk : k < os.length := by rw [ht, ← hlO]; exact (List.getElem?_eq_some_iff.1 g1).1
      have hm := getD_at hk
      obtain ⟨v, hv, ho⟩ := d4 k _ o hm g1
      refine .inr (.inl ⟨k, _, v, hm, g2, hv, ?_, ?_⟩)
      · rw [g3]; exact ho
      · have := agO k _ hm
        rw [Nat.zero_add] at this
        rw [g2]; exact this.trans hv
    · rw [g2, hset_deadL]
      by_cases hn : h ∈ ns
      · rw [if_pos hn]; exact .inr (.inr (.inl ⟨hn, rfl⟩))
      · rw [if_neg hn]
        refine .inr (.inr (.inr ⟨hn, rfl, h1', fun k hk => ?_⟩))
        have := g1 k (by rw [hlO]; exact hk)
        rwa [Nat.zero_add] at this
 refine ⟨?_, hle, d1, d3⟩
 refine Hx.frameR (R := ns) hC hF hFo H1 hp2 _ (fun h => h ∈ ns ∨ nx ≤ h) (fun h m => (∃ j, h = nmBack R ns nx j ∧ ms[j]? = some m) ∨ ∃ k, h = nx + nb + k ∧ os[k]? = some m) (fun h hm => .inl hm) (fun h hk => ?_) hle (fun h hk hn => ?_) (fun h hk hn => ?_) (fun h v hk hv ho => ?_) (fun h h' m hs hs' => ?_)
 · have hk1 : h ∉ ns := fun e => hk (.inl e)
   have hk2 : h < nx := by rcases Nat.lt_or_ge h nx with e | e; · exact e
                           · exact (hk (.inr e)).elim
   have hbe : β2of βx β1 R ms os nx nb h = βx h := by unfold β2of; rw [if_pos hk2]
   rcases hview h with ⟨j, m, v, hm, e, _⟩ | ⟨k, m, v, hm, e, _⟩ | ⟨e, _⟩ | ⟨_, e, _⟩
   · exfalso
     by_cases hr : ∃ k, R[j]? = some (some k)
     · obtain ⟨k, hr⟩ := hr
       rw [nmBack_root hr] at e
       exact hk1 (e ▸ List.mem_of_getElem? (getD_at (B.root j k hr).2))
     · rw [nmBack_new (fun k e => hr ⟨k, e⟩)] at e; omega
   · omega
   · exact (hk1 e).elim
   · exact ⟨e, hbe⟩
 · rcases hview h with ⟨j, m, v, hm, e, hv, ho, _⟩ | ⟨k, m, v, hm, e, hv, ho, _⟩ | ⟨_, e⟩ | ⟨hnn, e, f1, f2⟩
   · exact (ho.ne hn).elim
   · exact (ho.ne hn).elim
   · rw [hn] at e; cases e
   · have hge : nx ≤ h := hk.resolve_left hnn
     unfold β2of
     rw [if_neg (by omega)]
     split
     · rename_i hlt
       cases hr : R.getD (h - nx) none with
       | some k => rfl
       | none =>
        exfalso
        have hj : h - nx < nb := by omega
        refine f1 (h - nx) hj ?_
        rw [nmBack_new (fun k e => by rw [List.getD_eq_getElem?_getD, e] at hr; cases hr)]; omega
     · rename_i hlt
       have : os[h - nx - nb]? = none := by
        rw [List.getElem?_eq_none]
        rcases Nat.lt_or_ge (h - nx - nb) os.length with e | e
        · exact (f2 (h - nx - nb) (by rw [← ht]; exact e) (by omega)).elim
        · exact e
       rw [this]; rfl
 · rcases hview h with ⟨j, m, v, hm, e, hv, ho, hb⟩ | ⟨k, m, v, hm, e, hv, ho, hb⟩ | ⟨hm, e⟩ | ⟨hnn, e, _⟩
   · exact ⟨v, hb, ho.sat⟩
   · exact ⟨v, hb, ho.sat⟩
   · obtain ⟨v, hv, _⟩ := Hx.heap.sat h (hns h hm)
     exact ⟨v, hle h v hv, by rw [e]; trivial⟩
   · rw [e] at hn
     exact (hn (hfx h (hk.resolve_left hnn))).elim
 · rcases hview h with ⟨j, m, v', hm, e, hv', hok, hb⟩ | ⟨k, m, v', hm, e, hv', hok, hb⟩ | ⟨_, e⟩ | ⟨hnn, e, _⟩
   · rw [hv] at hb; cases hb
     exact ⟨m, .inl ⟨j, e, hm⟩, hv', hok.fc, hok.fo⟩
   · rw [hv] at hb; cases hb
     exact ⟨m, .inr ⟨k, e, hm⟩, hv', hok.fc, hok.fo⟩
   · rw [e] at ho
     rcases ho with ⟨b, i, hf⟩ | ⟨b, hf⟩ <;> cases v <;> cases hf
   · rw [e, hfx h (hk.resolve_left hnn)] at ho
     rcases ho with ⟨b, i, hf⟩ | ⟨b, hf⟩ <;> cases v <;> cases hf
 · rcases hs with ⟨j, e, hm⟩ | ⟨k, e, hm⟩ <;> rcases hs' with ⟨j', e', hm'⟩ | ⟨k', e', hm'⟩
   · have : j = j' := nodup_at (List.nodup_append.1 B.snd).2.1 hm hm'
     rw [e, e', this]
   · exact ((List.nodup_append.1 B.snd).2.2 m (List.mem_of_getElem? hm') m (List.mem_of_getElem? hm) rfl).elim
   · exact ((List.nodup_append.1 B.snd).2.2 m (List.mem_of_getElem? hm) m (List.mem_of_getElem? hm') rfl).elim
   · have : k = k' := nodup_at (List.nodup_append.1 B.snd).1 hm hm'
     rw [e, e', this]
end Go.Gv

/- A call of a function that keeps its contract goes the ways that the generator says. -/
namespace Go.Gv
open Go
theorem resV_sat {hp : Nat → HObj} {s : Sh} {L : List AP} {nx : Nat} {r : Fr (SDat s)} (h : fromA hp s (listA L) nx = some r) {y : SDat s} {β0 β : Asg} {G0 G : GW} {vs : List Value} (hL : satT (listA L) β0 G0 vs) {m : Nat}
    (hs : satT (intoA (fun k => m + k) s y 0) β G vs) : sat (resA s y m) β G (resV vs) := by
 rcases fromA_list h with ⟨rfl, rfl⟩ | ⟨a, b, X, L', rfl, rfl, nx', r', h'⟩ | ⟨f, cs, X, L', rfl, rfl⟩
 · unfold intoA satT at hs
   subst hs
   unfold resA sat
   exact ⟨[], rfl, by unfold satT; rfl⟩
 · have two : ∀ (b : Sh) (y : SDat (.cons a b)) (X' : AP) (L'' : List AP), b ≠ .nil → satT (listA (X :: X' :: L'')) β0 G0 vs → satT (intoA (fun k => m + k) (.cons a b) y 0) β G vs → sat (resA (.cons a b) y m) β G (resV vs) := fun b y X' L'' hb hL hs => by
    unfold listA satT at hL
    obtain ⟨v, l', rfl, _, h2⟩ := hL
    unfold listA satT at h2
    obtain ⟨v', l'', rfl, _, _⟩ := h2
    have e : resA (.cons a b) y m = .tup (intoA (fun k => m + k) (.cons a b) y 0) := by
     cases b <;> first | rfl | exact (hb rfl).elim
    rw [e]
    unfold sat
    exact ⟨_, rfl, hs⟩
   rcases fromA_list h' with ⟨rfl, rfl⟩ | ⟨a', b', X', L'', rfl, rfl, _⟩ | ⟨f, cs, X', L'', rfl, rfl⟩
   · unfold intoA at hs
     unfold satT at hs
     obtain ⟨v, l', rfl, h1, h2⟩ := hs
     unfold intoA satT at h2
     subst h2
     exact h1
   · exact two _ y X' L'' (by simp) hL hs
   · exact two _ y X' L'' (by simp) hL hs
 · unfold resA sat; trivial
theorem waysA_on {ro : Bool} {ins : Sh} (sel : Nat) (x : SDat ins) (ns : List Nat) (fz : List (Nat × HObj)) (nx nx1 : Nat) : ∀ (l : List (Alt ins)) (i j : Nat) (W : Way), (waysA ro sel x ns fz nx nx1 l i)[j]? = some W → W.on = (sel = i + j)
 | [], _, _, _, h => by simp [waysA] at h
 | B :: l, i, 0, W, h => by
  simp [waysA] at h; subst h; rfl
 | B :: l, i, j + 1, W, h => by
  have := waysA_on (ro := ro) sel x ns fz nx nx1 l (i + 1) j W (by simpa [waysA] using h)
  rw [this, show i + 1 + j = i + (j + 1) by omega]
theorem memN_dropK {D : List Nat} : ∀ {l : List (Nat × HObj)} {h : Nat}, h ∉ D → ∀ hp : Nat → HObj, hset hp (dropK D l) h = hset hp l h
 | [], _, _, _ => rfl
 | (a, o) :: l, h, hn, hp => by
  unfold dropK
  split
  · rename_i hm
    have hm := memN_iff.1 hm
    have hne : ¬ h = a := fun e => hn (e ▸ hm)
    simp only [hset]
    rw [if_neg hne]
    exact memN_dropK hn hp
  · simp only [hset]
    split
    · rfl
    · exact memN_dropK hn hp
theorem dropK_mem {D : List Nat} : ∀ {l : List (Nat × HObj)} {h : Nat}, h ∈ D → ∀ hp : Nat → HObj, hset hp (dropK D l) h = hp h
 | [], _, _, _ => rfl
 | (a, o) :: l, h, hn, hp => by
  unfold dropK
  split
  · exact dropK_mem hn hp
  · rename_i hm
    have hne : ¬ h = a := fun e => by
     subst e
     rw [memN_iff.2 hn] at hm; cases hm
    simp only [hset]
    rw [if_neg hne]
    exact dropK_mem hn hp
theorem sameO_eq {a b : HObj} (h : sameO a b = true) : a = b := by
 unfold sameO at h
 split at h
 · split at h
   · rename_i e
     rw [Nat.eq_of_beq_eq_true e, eqLocs_eq h]
   · cases h
 · cases h
theorem sames_mem {hp : Nat → HObj} {hw : List (Nat × HObj)} : ∀ {ns : List Nat} {h : Nat}, h ∈ sames hp hw ns → hp h = hset hp hw h
 | [], _, h => by cases h
 | a :: r, h, hm => by
  unfold sames at hm
  split at hm
  · rename_i e
    rcases List.mem_cons.1 hm with rfl | hm
    · exact sameO_eq e
    · exact sames_mem hm
  · exact sames_mem hm
theorem drop_same (hp : Nat → HObj) (hw : List (Nat × HObj)) (ns : List Nat) : hset hp (dropK (sames hp hw ns) hw) = hset hp hw := by
 funext h
 by_cases hm : h ∈ sames hp hw ns
 · rw [dropK_mem hm, sames_mem hm]
 · exact memN_dropK hm hp
theorem dropW_get {y : Bool} {hp : Nat → HObj} {ns : List Nat} {ws : List Way} {i : Nat} {W : Way} (h : ws[i]? = some W) : ∃ W', (dropW y hp ns ws)[i]? = some W' ∧ W'.on = W.on ∧ W'.ap = W.ap ∧ hset hp W'.hw = hset hp W.hw := by
 unfold dropW
 split
 · exact ⟨{ W with hw := dropK (sames hp W.hw ns) W.hw }, by rw [List.getElem?_map, h]; rfl, rfl, rfl, drop_same hp W.hw ns⟩
 · exact ⟨W, h, rfl, rfl, rfl⟩
theorem dropW_back {y : Bool} {hp : Nat → HObj} {ns : List Nat} {ws : List Way} {i : Nat} {W' : Way} (h : (dropW y hp ns ws)[i]? = some W') : ∃ W, ws[i]? = some W ∧ W'.on = W.on := by
 unfold dropW at h
 split at h
 · rw [List.getElem?_map, Option.map_eq_some_iff] at h
   obtain ⟨W, h1, rfl⟩ := h
   exact ⟨W, h1, rfl⟩
 · exact ⟨W', h, rfl⟩
theorem dropW_len {y : Bool} {hp : Nat → HObj} {ns : List Nat} {ws : List Way} : (dropW y hp ns ws).length = ws.length := by
 unfold dropW
 split
 · simp
 · rfl
theorem callA_on {P : Program} {gl : Glob} {f : FuncId} {S : Spec} (hS : SpecOK P gl f S) {hp : Nat → HObj} {nx : Nat} {args : List AP} {pre : Prop} {ws : List Way} (he : callA S hp nx args = some (pre, ws)) (hpre : pre) : ∃ (i : Nat) (W : Way), ws[i]? = some W ∧ W.on := by
 unfold callA at he
 dsimp only at he
 split at he
 · rename_i x ns ex nx1 hfa
   split at he
   · simp only [Option.some.injEq, Prod.mk.injEq] at he; obtain ⟨rfl, rfl⟩ := he
     have hpre : S.pre x := by
      unfold preA at hpre
      split at hpre
      · exact hpre
      · exact hpre.1
     obtain ⟨A, hA, _⟩ := hS.2 x hpre
     obtain ⟨W', h1, h2, _⟩ := dropW_get (y := hasSelf S.ins) (hp := hp) (ns := ns) (waysA_get (ro := S.ro) (S.sel x) x ns (frzArgs hp S.ins args) nx nx1 S.alts 0 (S.sel x) A hA)
     exact ⟨_, _, h1, by rw [h2]; show S.sel x = 0 + S.sel x; omega⟩
   · cases he
 · cases he
theorem idR_len : ∀ (n k : Nat), (idR n k).length = n
 | 0, _ => rfl
 | n + 1, k => by simp [idR, idR_len n (k + 1)]
theorem idR_at : ∀ (n k j m : Nat), (idR n k)[j]? = some (some m) → m = k + j ∧ j < n
 | 0, _, j, m, h => by simp [idR] at h
 | n + 1, k, 0, m, h => by simp [idR] at h; omega
 | n + 1, k, j + 1, m, h => by
  have := idR_at n (k + 1) j m (by simpa [idR] using h)
  omega
theorem idR_get : ∀ (n k j : Nat), j < n → (idR n k)[j]? = some (some (k + j))
 | 0, _, j, h => by omega
 | n + 1, k, 0, _ => by simp [idR]
 | n + 1, k, j + 1, h => by
  have := idR_get n (k + 1) j (by omega)
  simp only [idR, List.getElem?_cons_succ, this]
  congr 2; omega
theorem idB_spec {n : Nat} : ∀ {ms : List Nat} {k : Nat}, idB n k ms = true → k + ms.length = n ∧ ∀ (j m : Nat), ms[j]? = some m → m = k + j
 | [], k, h => ⟨by simpa [idB] using Nat.eq_of_beq_eq_true h, fun j m hm => by simp at hm⟩
 | a :: r, k, h => by
  unfold idB at h
  split at h
  · rename_i e
    have e := Nat.eq_of_beq_eq_true e
    obtain ⟨h1, h2⟩ := idB_spec h
    refine ⟨by simp; omega, fun j m hm => ?_⟩
    cases j with
    | zero => simp at hm; omega
    | succ j => have := h2 j m (by simpa using hm); omega
  · cases h
theorem sameP_mem {hp : Nat → HObj} : ∀ {l : List (Nat × HObj)}, sameP hp l → ∀ h o, (h, o) ∈ l → hp h = o
 | [], _, _, _, h => by cases h
 | (a, b) :: r, hs, h, o, hm => by
  rcases List.mem_cons.1 hm with e | hm
  · cases e; exact hs.1
  · exact sameP_mem hs.2 h o hm
theorem hset_same {hp : Nat → HObj} : ∀ {l : List (Nat × HObj)} {r : List (Nat × HObj)}, (∀ h o, (h, o) ∈ l → hset hp r h = o) → ∀ h, hset hp (l ++ r) h = hset hp r h
 | [], r, _, h => rfl
 | (a, b) :: l, r, hs, h => by
  show (if h = a then b else hset hp (l ++ r) h) = _
  split
  · rename_i e; subst e; exact (hs h b List.mem_cons_self).symm
  · exact hset_same (fun h o hm => hs h o (List.mem_cons_of_mem _ hm)) h
def SpecsOK (P : Program) (gl : Glob) (F : Specs) (nz : Bool) : Prop := ∀ g S, S ∈ F g → SpecOK P gl g S ∧ (S.noisy = true → nz = true)
structure GlobIs (C : Ctx) (c : Cf) : Prop where
 eq : C.glob = c.gl
 nz : c.nz = true → C.G0.nz
theorem callAny_of {hp : Nat → HObj} {nx : Nat} {args : List AP} {r : Prop × List Way} : ∀ {l : List Spec}, callAny hp nx args l = some r → ∃ S ∈ l, callA S hp nx args = some r
 | [], h => by cases h
 | S :: l, h => by
  unfold callAny at h
  split at h
  · rename_i o ho
    simp only [Option.some.injEq] at h; subst h
    exact ⟨S, List.mem_cons_self, ho⟩
  · obtain ⟨S', hm, hs⟩ := callAny_of h
    exact ⟨S', List.mem_cons_of_mem _ hm, hs⟩
def fullW (ro : Bool) {ins : Sh} (A : Alt ins) (x : SDat ins) (ns : List Nat) (fz : List (Nat × HObj)) (nx1 : Nat) : List (Nat × HObj) :=
 intoH (nmBack (bkRoots ro ins) ns nx1) (bk ro ins) (bkUpd ro A x) 0 (intoH (fun k => nx1 + nn (bk ro ins) + k) A.outs (A.res x) 0 (deadL ns fz))
theorem fullW_eq (ro : Bool) {ins : Sh} (A : Alt ins) (on : Prop) (x : SDat ins) (ns : List Nat) (fz : List (Nat × HObj)) (nx nx1 : Nat) (hp : Nat → HObj) (hl : ns.length = nn ins) (hlt : ∀ h ∈ ns, h < nx1)
    (hs : ro = true → sameP (hset hp fz) (intoH (nmBack (idR (nn ins) 0) ns nx1) ins x 0 [])) : hset hp (fullW ro A x ns fz nx1) = hset hp (wayA ro A on x ns fz nx nx1).hw := by
 cases ro with
 | false => rfl
 | true =>
  have hs := hs rfl
  funext h
  show hset hp (intoH (nmBack (idR (nn ins) 0) ns nx1) ins x 0 (intoH (fun k => nx1 + nn ins + k) A.outs (A.res x) 0 (deadL ns fz))) h = hset hp (intoH (fun k => nx1 + nn ins + k) A.outs (A.res x) 0 fz) h
  rw [intoH_eq, intoH_eq, intoH_eq]
  rw [intoH_eq] at hs
  have hln := objsA_len (nmBack (idR (nn ins) 0) ns nx1) ins x 0
  have hnm : ∀ k, k < nn ins → nmBack (idR (nn ins) 0) ns nx1 k ∈ ns := fun k hk => by
   have := idR_get (nn ins) 0 k hk
   rw [Nat.zero_add] at this
   rw [nmBack_root this]
   exact List.mem_of_getElem? (getD_at (by omega))
  have hnew : ∀ k, nx1 + nn ins + k ∉ ns := fun k hk => by have := hlt _ hk; omega
  rcases hset_zipN_cases (nmBack (idR (nn ins) 0) ns nx1) hp (objsA (nmBack (idR (nn ins) 0) ns nx1) ins x 0) 0 (zipN (fun k => nx1 + nn ins + k) (objsA (fun k => nx1 + nn ins + k) A.outs (A.res x) 0) 0 (deadL ns fz)) h with ⟨k, o, h1, h2, h3⟩ | ⟨h1, h2⟩
  · rw [Nat.zero_add] at h2
    have hk : k < nn ins := by rw [← hln]; exact (List.getElem?_eq_some_iff.1 h1).1
    have hmem := hnm k hk
    rw [h3]
    have hin : (h, o) ∈ zipN (nmBack (idR (nn ins) 0) ns nx1) (objsA (nmBack (idR (nn ins) 0) ns nx1) ins x 0) 0 [] := by
     have := zipN_mem (nmBack (idR (nn ins) 0) ns nx1) _ 0 [] k o h1
     rw [Nat.zero_add] at this
     rw [h2]; exact this
    rw [← sameP_mem hs h o hin]
    rw [hset_zipN, hset_zip_not]
    intro j hj e
    rw [Nat.zero_add] at e
    rw [h2] at e
    exact hnew j (e ▸ hmem)
  · rw [h2, hset_zipN _ hp _ 0 (deadL ns fz), hset_zipN _ hp _ 0 fz]
    rcases hset_zipN_cases (fun k => nx1 + nn ins + k) (hset hp (deadL ns fz)) (objsA (fun k => nx1 + nn ins + k) A.outs (A.res x) 0) 0 [] h with ⟨k, o, g1, g2, g3⟩ | ⟨g1, g2⟩
    · rw [g3]
      rw [g2]
      exact (hset_zip_at (fun k => nx1 + nn ins + k) (hset hp fz) _ 0 (fun i j _ _ e => by
       have e : nx1 + nn ins + (0 + i) = nx1 + nn ins + (0 + j) := e
       omega) k o g1).symm
    · rw [g2, hset_zip_not _ (hset hp fz) _ _ _ g1]
      show hset hp (deadL ns fz) h = hset hp fz h
      rw [hset_deadL]
      rw [if_neg]
      intro hm
      obtain ⟨k, hk⟩ := List.getElem?_of_mem hm
      have hk' : k < nn ins := by rw [← hl]; exact (List.getElem?_eq_some_iff.1 hk).1
      refine h1 k (by rw [hln]; exact hk') ?_
      have := idR_get (nn ins) 0 k hk'
      rw [Nat.zero_add] at this
      rw [Nat.zero_add, nmBack_root this, List.getD_eq_getElem?_getD, hk]; rfl
theorem bk_roots {hp : Nat → HObj} {ro : Bool} {s : Sh} {x : SDat s} {nx : Nat} {z : SDat (bk ro s)} {ms : List Nat} {ey : List (Nat × HObj)} {nx2 : Nat} (h : fromA hp (bk ro s) (bkEnd ro s x) nx = some ⟨z, ms, ey, nx2⟩) (hid : idOK ro (nn s) ms = true) :
    (bkRoots ro s).length = nn (bk ro s) ∧ ∀ (j k : Nat), (bkRoots ro s)[j]? = some (some k) → ms[j]? = some k ∧ 0 ≤ k ∧ k < 0 + nn s := by
 cases ro with
 | false => exact roots_spec s x 0 nx z ms ey nx2 h
 | true =>
  obtain ⟨h1, h2⟩ := idB_spec (show idB (nn s) 0 ms = true from hid)
  refine ⟨idR_len _ _, fun j k hj => ?_⟩
  obtain ⟨rfl, hlt⟩ := idR_at _ _ _ _ hj
  have hj' : j < ms.length := by omega
  have := h2 j _ (List.getElem?_eq_getElem hj')
  exact ⟨by rw [List.getElem?_eq_getElem hj', this], by omega, by omega⟩
theorem callA_run {P : Program} {gl : Glob} {f : FuncId} {S : Spec} (hS : SpecOK P gl f S) {C : Ctx} {hp : Nat → HObj} {nx : Nat} {β : Asg} {G : GW} {args : List AP} {vals : List Value} {pre : Prop} {ws : List Way}
    (he : callA S hp nx args = some (pre, ws)) (hpre : pre) (H : HInv C hp β G) (hfr : ∀ n, nx ≤ n → hp n = .none) (hg : C.glob = gl) (hz : S.noisy = true → C.G0.nz) (ha : satT (listA args) β G vals) :
    ∃ (i : Nat) (W : Way), ws[i]? = some W ∧ W.on ∧ (∀ (j : Nat) (W' : Way), ws[j]? = some W' → (ws.length ≠ 1 → W'.on) → W' = W) ∧ Calls P f vals.toArray G.w (fun e w' => match e with
     | .returned v => ∃ β' G', G'.w = w' ∧ HInv C (hset hp W.hw) β' G' ∧ β.le β' ∧ G.le G' ∧ sat W.ap β' G' v
     | _ => False) := by
 unfold callA at he
 generalize hfz : frzArgs hp S.ins args = fz at he
 dsimp only at he
 split at he
 · rename_i x ns ex nx1 hfa
   split at he
   · rename_i hnd
     have hnd := nodupN_iff.1 hnd
     simp only [Option.some.injEq, Prod.mk.injEq] at he; obtain ⟨rfl, rfl⟩ := he
     have hsame : S.ro = true → sameP (hset hp fz) (intoH (nmBack (idR (nn S.ins) 0) ns nx1) S.ins x 0 []) := fun hr => by
      unfold preA at hpre
      rw [hr] at hpre
      exact hpre.2
     have hpre : S.pre x := by
      unfold preA at hpre
      split at hpre
      · exact hpre
      · exact hpre.1
     have hspec : ∀ h o, (h, o) ∈ fz → frzO (hp h) = some o := fun h o hm => frzArgs_spec S.ins args h o (by rw [hfz]; exact hm)
     obtain ⟨G1, e1, l1, H1⟩ := HInv.freezeL fz H hspec
     have hfr1 : ∀ n, nx ≤ n → hset hp fz n = .none := fun n hn => by
      by_cases hk : n ∈ keysH fz
      · obtain ⟨o, hm⟩ := mem_keys hk
        have e := hspec n o hm
        rw [hfr n hn] at e; cases e
      · rw [hset_not hk]; exact hfr n hn
     obtain ⟨βx, Hx, lx, car, le1, hns, hfx, hexn, hlen, _, _⟩ := take_in H1 hfr1 hfa
     obtain ⟨A, hA, hcall⟩ := hS.2 x hpre
     have hcan := canon_inv Hx car hnd
     obtain ⟨_, _, c3, _⟩ := car.go (fun k => k) 0 (fun k => (ns[k]?).bind βx) (fun k h hk => by simp [hk])
     have hget0 := waysA_get (ro := S.ro) (S.sel x) x ns fz nx nx1 S.alts 0 (S.sel x) A hA
     obtain ⟨W0, hget, hon0, hap0, hhw0⟩ := dropW_get (y := hasSelf S.ins) (hp := hp) (ns := ns) hget0
     refine ⟨S.sel x, W0, hget, by rw [hon0]; show S.sel x = 0 + S.sel x; omega, fun j W' hj hon => ?_, ?_⟩
     · have hlt := (List.getElem?_eq_some_iff.1 hj).1
       have hlt0 := (List.getElem?_eq_some_iff.1 hget).1
       have hjs : j = S.sel x := by
        by_cases h1 : (dropW (hasSelf S.ins) hp ns (waysA S.ro (S.sel x) x ns fz nx nx1 S.alts 0)).length = 1
        · omega
        · have := hon h1
          obtain ⟨W1, hj1, hon1⟩ := dropW_back hj
          have hw := waysA_on (ro := S.ro) (S.sel x) x ns fz nx nx1 S.alts 0 j W1 hj1
          rw [hon1, hw] at this; omega
       rw [hjs, hget] at hj
       exact (Option.some.inj hj).symm
     have hc := hcall { G0 := G1, F0 := fun b i => ∃ h v, h ∈ ns ∧ βx h = some v ∧ fpc (hset (hset hp fz) ex h) v b i, Fo0 := fun b => ∃ h v, h ∈ ns ∧ βx h = some v ∧ fpo (hset (hset hp fz) ex h) v b, glob := C.glob, N := C.N } _ G1 vals hg (fun h => by show G1.nz; rw [H1.step.nz]; exact hz h) hcan (c3 vals (satT.mono _ ha (Asg.le_refl β) l1))
     rw [← e1]
     refine Calls.mono hc fun e w' hr => ?_
     cases e with
     | panicked _ => exact hr.elim
     | outgrown => exact hr.elim
     | returned v =>
      obtain ⟨hp', β', G', L, vs, nx', y, os, ex', nx1', z, ms, ey, nx2, rfl, H2, lb, lg, rfl, hL, hfr', hfo, hfb, hnd2, hy, hz, hid⟩ := hr.ex
      have hnd2 := nodupN_iff.1 hnd2
      have hcomb : fromA hp' (.cons A.outs (bk S.ro S.ins)) (.cons (listA L) (bkEnd S.ro S.ins x)) nx' = some ⟨(y, z), os ++ ms, ex' ++ ey, nx2⟩ := by
       unfold fromA; simp only [hfo, hfb]
      obtain ⟨β'x, H3, lb3, _, _, _, _, _, _, hold3, hex3⟩ := take_in H2 hfr' hcomb
      have car1 := fromA_trans H2.hs hold3 A.outs (listA L) nx' y os ex' nx1' hfo (fun h o hm => hex3 h o (List.mem_append_left _ hm))
      have car2 := fromA_trans H2.hs hold3 (bk S.ro S.ins) (bkEnd S.ro S.ins x) nx1' z ms ey nx2 hfb (fun h o hm => hex3 h o (List.mem_append_right _ hm))
      obtain ⟨r1, r2⟩ : (bkRoots S.ro S.ins).length = nn (bk S.ro S.ins) ∧ ∀ (j k : Nat), (bkRoots S.ro S.ins)[j]? = some (some k) → ms[j]? = some k ∧ 0 ≤ k ∧ k < 0 + nn S.ins := bk_roots hfb hid
      have B : Back (bkRoots S.ro S.ins) ns ms os nx1 (nn (bk S.ro S.ins)) :=
       { root := fun j k hj => by
          obtain ⟨q1, q2, q3⟩ := r2 j k hj
          exact ⟨q1, by rw [hlen]; omega⟩
         len := r1
         mlen := car2.len
         nlt := fun h hm => (hns h hm).1
         nnd := hnd
         snd := hnd2 }
      obtain ⟨g1, g2, g3, g4⟩ := give_back Hx rfl (fun b i hf => hf) (fun b hf => hf) H3 B hfx (fun h hm => (hns h hm).2) (fun k h v hk hv => lb3 k v (lb k v (by show (ns[k]?).bind βx = some v; rw [hk]; exact hv))) (s := bk S.ro S.ins) (t := A.outs) (z := z) (y := y) rfl car1.len car2 car1
       (hset hp (fullW S.ro A x ns fz nx1)) (fun h => by
        show hset hp (intoH (nmBack (bkRoots S.ro S.ins) ns nx1) (bk S.ro S.ins) (bkUpd S.ro A x) 0 (intoH (fun k => nx1 + nn (bk S.ro S.ins) + k) A.outs (A.res x) 0 (deadL ns fz))) h = _
        rw [← hy, ← hz, intoH_eq, intoH_eq, intoH_eq, intoH_eq]
        rw [hset_zipN, hset_zipN _ (hset (hset hp fz) ex)]
        refine hset_zip_congr _ _ ?_ _ _
        intro h
        rw [hset_zipN, hset_zipN _ (hset (hset hp fz) ex)]
        refine hset_zip_congr _ _ ?_ _ _
        intro h
        rw [hset_deadL, hset_deadL]
        by_cases hm : h ∈ ns
        · rw [if_pos hm, if_pos hm]
        · rw [if_neg hm, if_neg hm]
          show hset hp fz h = hset (hset (hset hp fz) ex) [] h
          have hnk : h ∉ keysH ex := fun hk => by
           obtain ⟨o, hk⟩ := mem_keys hk
           exact hm (hexn h o hk)
          show hset hp fz h = hset (hset hp fz) ex h
          rw [hset_not hnk])
      rw [fullW_eq S.ro A (S.sel x = 0 + S.sel x) x ns fz nx nx1 hp (by rw [hlen]) (fun h hm => (hns h hm).1) hsame] at g1
      rw [hhw0, hap0]
      refine ⟨_, G', rfl, g1, Asg.le_trans lx g2, GW.le_trans l1 lg, ?_⟩
      show sat (resA A.outs (A.res x) (nx1 + nn (bk S.ro S.ins))) _ G' (resV vs)
      rw [← hy]
      exact resV_sat hfo hL (g4 vs hL)
   · cases he
 · cases he
end Go.Gv

/- Contracts whose outcome is settled late; what it is to feed a consumer. -/
namespace Go.Gv
open Go
def LSpecOK (P : Program) (gl : Glob) (f : FuncId) (S : LSpec) : Prop :=
 (∃ fn, P.funcs[f]? = some fn ∧ fn.body.isNone = false ∧ (fn.name == "runtime.NumGoroutine") = false) ∧
 ∀ x, S.pre x → ∀ (C : Ctx) (β : Asg) (G : GW) (args : List Value), C.glob = gl → (S.noisy = true → C.G0.nz) → HInv C (canon S.ins x) β G → satT (intoA (fun k => k) S.ins x 0) β G args →
  Calls P f args.toArray G.w (fun e w' => match e with
   | .returned v => ∃ χ, S.ok x χ ∧ RetOK C false S.ins (S.alt χ) x β G v w'
   | _ => False)
def Bite (P : Program) (ts : List Ty) (y : TDat ts) (E : Eater) (R : Bool → Eater → Prop) : Prop :=
 ∀ (v : Value) (G : GW) (vals : List Value), E.J v G → OldOK G → satD ts y G vals → ∃ L fn tmps assign body, v = .func (.yield L) #[] #[] ∧ (Instr.yield L vals.toArray).run P G.w = .ok (.round L fn tmps assign body) G.w ∧
  RoundIn Fence.wide 0 P L fn tmps assign body G.w (fun e w' => ∃ q E' G', e = .returned (.bool q) ∧ G'.w = w' ∧ Step E.F E.Fo G G' ∧ OldOK G' ∧ E'.J v G' ∧
   (∀ b o, E'.F b o → (E.F b o ∨ G.w.heap.size ≤ b) ∧ ¬ G'.im b o ∧ b < G'.w.heap.size) ∧ (∀ b, E'.Fo b → (E.Fo b ∨ G.w.heap.size ≤ b) ∧ ¬ G'.imo b ∧ b < G'.w.heap.size) ∧ R q E')
def eatsL (P : Program) (ts : List Ty) (D : Eater → Prop) : List (TDat ts) → Eater → Prop
 | [], E => D E
 | y :: r, E => Bite P ts y E (fun q E' => if q = true then eatsL P ts D r E' else D E')
def Eats (P : Program) : Feed := fun ts D ys E => eatsL P ts D ys E
def ItOK (P : Program) (gl : Glob) (f : FuncId) (S : ItSpec) : Prop :=
 (∃ fn, P.funcs[f]? = some fn ∧ fn.body.isNone = false ∧ (fn.name == "runtime.NumGoroutine") = false) ∧
 ∀ (x : SDat (.cons (.ob (.log S.ts)) S.caps)), S.pre x.2 → x.1.1 = S.seq x.2 → Eats P S.ts x.1.2.2 x.1.1 x.1.2.1 → ∀ (C : Ctx) (β : Asg) (G : GW) (args : List Value), C.glob = gl → (S.noisy = true → C.G0.nz) → HInv C (canon (.cons (.ob (.log S.ts)) S.caps) x) β G →
  satT (intoA (fun k => k) (.cons (.ob (.log S.ts)) S.caps) x 0) β G args → Calls P f args.toArray G.w (fun e w' => match e with
   | .returned _ => ∃ (hp' : Nat → HObj) (β' : Asg) (G' : GW) (h : Nat) (E' : Eater), G'.w = w' ∧ HInv C hp' β' G' ∧ G.le G' ∧ hp' h = .ob (.log S.ts) ([], E', x.1.2.2) ∧ x.1.2.2 E'
   | _ => False)
structure LateOK (P : Program) (c : Cf) : Prop where
 eat : ∀ ts D ys E, c.eat ts D ys E → c.eat = Eats P
 L : ∀ g S, S ∈ c.L g → LSpecOK P c.gl g S ∧ (S.noisy = true → c.nz = true)
 I : ∀ g S, S ∈ c.I g → ItOK P c.gl g S ∧ (S.noisy = true → c.nz = true)
theorem callL_run {P : Program} {gl : Glob} {f : FuncId} {S : LSpec} (hS : LSpecOK P gl f S) {C : Ctx} {hp : Nat → HObj} {nx : Nat} {β : Asg} {G : GW} {args : List AP} {vals : List Value} {D : Dyn}
    (he : callL S hp nx args = some D) (hpre : ∀ p ∈ D.vc, p) (H : HInv C hp β G) (hfr : ∀ n, nx ≤ n → hp n = .none) (hg : C.glob = gl) (hz : S.noisy = true → C.G0.nz) (ha : satT (listA args) β G vals) :
    Calls P f vals.toArray G.w (fun e w' => match e with
     | .returned v => ∃ x, D.ok x ∧ ∃ β' G', G'.w = w' ∧ HInv C (hset hp (D.W x).hw) β' G' ∧ β.le β' ∧ G.le G' ∧ sat (D.W x).ap β' G' v
     | _ => False) := by
 unfold callL at he
 generalize hfz : frzArgs hp S.ins args = fz at he
 dsimp only at he
 split at he
 · rename_i x ns ex nx1 hfa
   split at he
   · rename_i hnd
     have hnd := nodupN_iff.1 hnd
     simp only [Option.some.injEq] at he; subst he
     have hpre : S.pre x := hpre _ (List.mem_singleton.2 rfl)
     have hsame : false = true → sameP (hset hp fz) (intoH (nmBack (idR (nn S.ins) 0) ns nx1) S.ins x 0 []) := fun hr => by cases hr
     have hspec : ∀ h o, (h, o) ∈ fz → frzO (hp h) = some o := fun h o hm => frzArgs_spec S.ins args h o (by rw [hfz]; exact hm)
     obtain ⟨G1, e1, l1, H1⟩ := HInv.freezeL fz H hspec
     have hfr1 : ∀ n, nx ≤ n → hset hp fz n = .none := fun n hn => by
      by_cases hk : n ∈ keysH fz
      · obtain ⟨o, hm⟩ := mem_keys hk
        have e := hspec n o hm
        rw [hfr n hn] at e; cases e
      · rw [hset_not hk]; exact hfr n hn
     obtain ⟨βx, Hx, lx, car, le1, hns, hfx, hexn, hlen, _, _⟩ := take_in H1 hfr1 hfa
     have hcall := hS.2 x hpre
     have hcan := canon_inv Hx car hnd
     obtain ⟨_, _, c3, _⟩ := car.go (fun k => k) 0 (fun k => (ns[k]?).bind βx) (fun k h hk => by simp [hk])
     have hc := hcall { G0 := G1, F0 := fun b i => ∃ h v, h ∈ ns ∧ βx h = some v ∧ fpc (hset (hset hp fz) ex h) v b i, Fo0 := fun b => ∃ h v, h ∈ ns ∧ βx h = some v ∧ fpo (hset (hset hp fz) ex h) v b, glob := C.glob, N := C.N } _ G1 vals hg (fun h => by show G1.nz; rw [H1.step.nz]; exact hz h) hcan (c3 vals (satT.mono _ ha (Asg.le_refl β) l1))
     rw [← e1]
     refine Calls.mono hc fun e w' hr => ?_
     cases e with
     | panicked _ => exact hr.elim
     | outgrown => exact hr.elim
     | returned v =>
      obtain ⟨χ, hχ, hrx⟩ := hr
      obtain ⟨hp', β', G', L, vs, nx', y, os, ex', nx1', z, ms, ey, nx2, rfl, H2, lb, lg, rfl, hL, hfr', hfo, hfb, hnd2, hy, hz, hid⟩ := hrx.ex
      have hnd2 := nodupN_iff.1 hnd2
      have hcomb : fromA hp' (.cons (S.alt χ).outs (bk false S.ins)) (.cons (listA L) (bkEnd false S.ins x)) nx' = some ⟨(y, z), os ++ ms, ex' ++ ey, nx2⟩ := by
       unfold fromA; simp only [hfo, hfb]
      obtain ⟨β'x, H3, lb3, _, _, _, _, _, _, hold3, hex3⟩ := take_in H2 hfr' hcomb
      have car1 := fromA_trans H2.hs hold3 (S.alt χ).outs (listA L) nx' y os ex' nx1' hfo (fun h o hm => hex3 h o (List.mem_append_left _ hm))
      have car2 := fromA_trans H2.hs hold3 (bk false S.ins) (bkEnd false S.ins x) nx1' z ms ey nx2 hfb (fun h o hm => hex3 h o (List.mem_append_right _ hm))
      obtain ⟨r1, r2⟩ : (bkRoots false S.ins).length = nn (bk false S.ins) ∧ ∀ (j k : Nat), (bkRoots false S.ins)[j]? = some (some k) → ms[j]? = some k ∧ 0 ≤ k ∧ k < 0 + nn S.ins := bk_roots hfb hid
      have B : Back (bkRoots false S.ins) ns ms os nx1 (nn (bk false S.ins)) :=
       { root := fun j k hj => by
          obtain ⟨q1, q2, q3⟩ := r2 j k hj
          exact ⟨q1, by rw [hlen]; omega⟩
         len := r1
         mlen := car2.len
         nlt := fun h hm => (hns h hm).1
         nnd := hnd
         snd := hnd2 }
      obtain ⟨g1, g2, g3, g4⟩ := give_back Hx rfl (fun b i hf => hf) (fun b hf => hf) H3 B hfx (fun h hm => (hns h hm).2) (fun k h v hk hv => lb3 k v (lb k v (by show (ns[k]?).bind βx = some v; rw [hk]; exact hv))) (s := bk false S.ins) (t := (S.alt χ).outs) (z := z) (y := y) rfl car1.len car2 car1
       (hset hp (fullW false (S.alt χ) x ns fz nx1)) (fun h => by
        show hset hp (intoH (nmBack (bkRoots false S.ins) ns nx1) (bk false S.ins) (bkUpd false (S.alt χ) x) 0 (intoH (fun k => nx1 + nn (bk false S.ins) + k) (S.alt χ).outs ((S.alt χ).res x) 0 (deadL ns fz))) h = _
        rw [← hy, ← hz, intoH_eq, intoH_eq, intoH_eq, intoH_eq]
        rw [hset_zipN, hset_zipN _ (hset (hset hp fz) ex)]
        refine hset_zip_congr _ _ ?_ _ _
        intro h
        rw [hset_zipN, hset_zipN _ (hset (hset hp fz) ex)]
        refine hset_zip_congr _ _ ?_ _ _
        intro h
        rw [hset_deadL, hset_deadL]
        by_cases hm : h ∈ ns
        · rw [if_pos hm, if_pos hm]
        · rw [if_neg hm, if_neg hm]
          show hset hp fz h = hset (hset (hset hp fz) ex) [] h
          have hnk : h ∉ keysH ex := fun hk => by
           obtain ⟨o, hk⟩ := mem_keys hk
           exact hm (hexn h o hk)
          show hset hp fz h = hset (hset hp fz) ex h
          rw [hset_not hnk])
      rw [fullW_eq false (S.alt χ) True x ns fz nx nx1 hp (by rw [hlen]) (fun h hm => (hns h hm).1) hsame] at g1
      refine ⟨χ, hχ, _, G', rfl, g1, Asg.le_trans lx g2, GW.le_trans l1 lg, ?_⟩
      show sat (resA (S.alt χ).outs ((S.alt χ).res x) (nx1 + nn (bk false S.ins))) _ G' (resV vs)
      rw [← hy]
      exact resV_sat hfo hL (g4 vs hL)
   · cases he
 · cases he
end Go.Gv

/- The run over a region, taken apart: what each operation comes to, in the order of the text. -/
namespace Go.Gv
open Go
structure TE where
 path : Path
 ap : AP
 hw : List (Nat × HObj)
 ns : List Nat
 k : Nat
def pathProp (gd : List (Nat × (Prop × Path))) : Path → Prop
 | [] => True
 | (j, true) :: r => match lookN gd j with
  | some (p, _) => p ∧ pathProp gd r
  | none => False
 | (j, false) :: r => match lookN gd j with
  | some (p, _) => ¬ p ∧ pathProp gd r
  | none => False
theorem pathProp_t {gd : List (Nat × (Prop × Path))} {j : Nat} {r : Path} {p : Prop} {pp : Path} (h : lookN gd j = some (p, pp)) : pathProp gd ((j, true) :: r) = (p ∧ pathProp gd r) := by
 rw [pathProp, h]
theorem pathProp_f {gd : List (Nat × (Prop × Path))} {j : Nat} {r : Path} {p : Prop} {pp : Path} (h : lookN gd j = some (p, pp)) : pathProp gd ((j, false) :: r) = (¬ p ∧ pathProp gd r) := by
 rw [pathProp, h]
theorem impP_spec {gd : List (Nat × (Prop × Path))} : ∀ (path : Path) (q : Prop) (K : Prop → Prop), impP gd path q K → ∃ q', K q' ∧ (q' → pathProp gd path → q)
 | [], q, K, h => ⟨q, h, fun h _ => h⟩
 | (j, true) :: r, q, K, h => by
  unfold impP at h
  split at h
  · rename_i p _ hl
    obtain ⟨q', h1, h2⟩ := impP_spec r _ K h
    exact ⟨q', h1, fun hq hp => by rw [pathProp_t hl] at hp; exact h2 hq hp.2 hp.1⟩
  · exact h.elim
 | (j, false) :: r, q, K, h => by
  unfold impP at h
  split at h
  · rename_i p _ hl
    obtain ⟨q', h1, h2⟩ := impP_spec r _ K h
    exact ⟨q', h1, fun hq hp => by rw [pathProp_f hl] at hp; exact h2 hq hp.2 hp.1⟩
  · exact h.elim
theorem impAll_spec {gd : List (Nat × (Prop × Path))} {path : Path} : ∀ (l acc : List Prop) (K : List Prop → Prop), impAll gd path l acc K → ∃ vc', K vc' ∧ ((∀ p ∈ vc', p) → (∀ p ∈ acc, p) ∧ (pathProp gd path → ∀ p ∈ l, p))
 | [], acc, K, h => ⟨acc, h, fun h => ⟨h, fun _ p hp => by cases hp⟩⟩
 | p :: r, acc, K, h => by
  unfold impAll at h
  obtain ⟨q, h1, h2⟩ := impP_spec _ _ _ h
  obtain ⟨vc', h3, h4⟩ := impAll_spec r (q :: acc) K h1
  refine ⟨vc', h3, fun hv => ?_⟩
  obtain ⟨h5, h6⟩ := h4 hv
  refine ⟨fun p hp => h5 p (List.mem_cons_of_mem _ hp), fun hpp x hx => ?_⟩
  rcases List.mem_cons.1 hx with rfl | hx
  · exact h2 (h5 q List.mem_cons_self) hpp
  · exact h6 hpp x hx
theorem condP_spec {gd : List (Nat × (Prop × Path))} : ∀ (path : Path) (q : Prop) (K : Prop → Prop), condP gd path q K → ∃ q', K q' ∧ (q' ↔ (pathProp gd path ∧ q))
 | [], q, K, h => ⟨q, h, by simp [pathProp]⟩
 | (j, true) :: r, q, K, h => by
  unfold condP at h
  split at h
  · rename_i p _ hl
    obtain ⟨q', h1, h2⟩ := condP_spec r _ K h
    refine ⟨q', h1, h2.trans ?_⟩
    rw [pathProp_t hl]
    exact ⟨fun ⟨a, b, c⟩ => ⟨⟨b, a⟩, c⟩, fun ⟨⟨a, b⟩, c⟩ => ⟨b, a, c⟩⟩
  · exact h.elim
 | (j, false) :: r, q, K, h => by
  unfold condP at h
  split at h
  · rename_i p _ hl
    obtain ⟨q', h1, h2⟩ := condP_spec r _ K h
    refine ⟨q', h1, h2.trans ?_⟩
    rw [pathProp_f hl]
    exact ⟨fun ⟨a, b, c⟩ => ⟨⟨b, a⟩, c⟩, fun ⟨⟨a, b⟩, c⟩ => ⟨b, a, c⟩⟩
  · exact h.elim
theorem allP_spec : ∀ {l : List Prop}, allP l → ∀ p ∈ l, p
 | [], _, p, hp => by cases hp
 | [q], h, p, hp => by rw [List.mem_singleton] at hp; subst hp; exact h
 | q :: r :: l, h, p, hp => by
  have h' : allP (r :: l) ∧ q := h
  rcases List.mem_cons.1 hp with rfl | hp
  · exact h'.2
  · exact allP_spec h'.1 p hp
def nextP (i : Nat) (dst : Option Nat) (path : Path) (ap : AP) (hw : List (Nat × HObj)) (k : Nat) (ns : List Nat) (vc : List Prop) (rs : RS) : RS :=
 { sl := match dst with | some d => (d, ⟨path, ap⟩) :: rs.sl | none => rs.sl, hp := hw ++ rs.hp, nx := rs.nx + k,
   gd := match dst, propOf ap with | some _, some p => (i, (p, path)) :: rs.gd | _, _ => rs.gd, vc := vc, tr := (keysR hw [], ns) :: rs.tr, wr := keysR hw rs.wr }
theorem keysR_app : ∀ (l : List (Nat × HObj)) (r : List Nat), keysR l [] ++ r = keysR l r
 | [], _ => rfl
 | (h, o) :: l, r => by simp only [keysR, List.cons_append, keysR_app l r]
theorem nextRS_eq {i : Nat} {dst : Option Nat} {path : Path} {ap : AP} {hw : List (Nat × HObj)} {k : Nat} {ns : List Nat} {vc : List Prop} {K : RS → Prop} {rs : RS} (h : nextRS i dst path ap hw k ns vc K rs) : K (nextP i dst path ap hw k ns vc rs) := by
 cases rs with
 | mk sl hp nx gd vc0 tr wr =>
  unfold nextRS at h
  dsimp only at h
  rw [forceN_eq, appF_eq, forceNs_eq, appF_eq, keysR_app] at h
  cases dst with
  | none => exact h
  | some d =>
   cases hp' : propOf ap with
   | none => rw [hp'] at h; unfold nextP; rw [hp']; exact h
   | some p => rw [hp'] at h; unfold nextP; rw [hp']; exact h
inductive Ev (c : Cf) (ops : List Oper) (rs : RS) (path : Path) (o : Oper) : List Prop → List Way → List Nat → Prop where
 | pick (x a b : Operand) (ap : AP) (h1 : pickOf o.op = some (x, a, b)) (h2 : pickA c.gl ops rs.slf rs.gd path x a b = some ap) : Ev c ops rs path o [] [⟨True, ap, [], 0⟩] []
 | call (f : Operand) (g : Nat) (caps : AP) (l : List AP) (ns : List Nat) (pre : Prop) (ws : List Way) (h0 : pickOf o.op = none) (h1 : calleeOf o.op = some f) (h2 : calA (opA c.gl rs.slf path f) = .clos g caps) (h3 : unlistA caps = some l)
  (h4 : closedB rs.hpf ns ns = true) (h6 : ∀ h ∈ namesL ((opnds o.op).map (opA c.gl rs.slf path) ++ l) [], h ∈ ns) (h5 : callAny (resH rs.hpf ns) rs.nx ((opnds o.op).map (opA c.gl rs.slf path) ++ l) (c.F g) = some (pre, ws)) : Ev c ops rs path o [pre] ws ns
 | op (ns : List Nat) (vc : List Prop) (ap : AP) (hw : List (Nat × HObj)) (k : Nat) (h0 : pickOf o.op = none) (h1 : calleeOf o.op = none) (h4 : closedB rs.hpf ns ns = true) (h6 : ∀ h ∈ namesL ((opnds o.op).map (opA c.gl rs.slf path)) [], h ∈ ns)
  (h5 : evalOp c.E (resH rs.hpf ns) rs.nx (nonEmpty path) o.dst o.op ((opnds o.op).map (opA c.gl rs.slf path)) = some ⟨vc, ap, hw, k⟩) : Ev c ops rs path o vc [⟨True, ap, hw, k⟩] ns
 | split (vc : List Prop) (ns : List Nat) (W : Way) (p : Prop) (h : Ev c ops rs path o vc [W] ns) (hp : propOf W.ap = some p) : Ev c ops rs path o vc [⟨p, .blit true, W.hw, W.k⟩, ⟨¬ p, .blit false, W.hw, W.k⟩] ns
theorem Ev.splitW {c : Cf} {ops : List Oper} {rs : RS} {path : Path} {o : Oper} {vc : List Prop} {ws : List Way} {ns : List Nat} (h : Ev c ops rs path o vc ws ns) (spl : List Nat) (dst : Option Nat) : Ev c ops rs path o vc (Gv.splitW spl dst ws) ns := by
 unfold Gv.splitW
 split
 · split
   · split
     · split
       · rename_i p hp
         exact .split vc ns _ p h hp
       · exact h
     · exact h
   · exact h
 · exact h
theorem addN_mem {l : List Nat} {n h : Nat} : h ∈ addN l n ↔ h = n ∨ h ∈ l := by
 unfold addN
 split
 · rename_i e
   have := memN_iff.1 e
   exact ⟨.inr, fun hh => hh.elim (fun e => e ▸ this) id⟩
 · exact List.mem_cons
theorem namesA_mono : ∀ (X : AP) {l : List Nat} {h : Nat}, h ∈ l → h ∈ namesA X l := by
 intro X
 induction X with
 | ref n => intro l h hm; exact addN_mem.2 (.inr hm)
 | loc n o => intro l h hm; exact addN_mem.2 (.inr hm)
 | rloc n i s o => intro l h hm; exact addN_mem.2 (.inr hm)
 | vw n k s => intro l h hm; exact addN_mem.2 (.inr hm)
 | sl n t xs => intro l h hm; exact addN_mem.2 (.inr hm)
 | agg c ih => intro l h hm; exact ih hm
 | tup c ih => intro l h hm; exact ih hm
 | clos f c ih => intro l h hm; exact ih hm
 | cons a b iha ihb => intro l h hm; exact iha (ihb hm)
 | _ => intro l h hm; exact hm
theorem namesO_mono (o : HObj) {l : List Nat} {h : Nat} (hm : h ∈ l) : h ∈ namesO o l := by
 cases o <;> first | exact namesA_mono _ hm | exact hm
theorem reach1_mono {hp : Nat → HObj} : ∀ (r l : List Nat) (h : Nat), h ∈ l → h ∈ reach1 hp r l
 | [], _, _, hm => hm
 | _ :: r, _, h, hm => reach1_mono r _ h (namesO_mono _ hm)
theorem reachN_sub (hp : Nat → HObj) : ∀ (n : Nat) (l : List Nat) (h : Nat), h ∈ l → h ∈ reachN hp n l
 | 0, _, _, hm => hm
 | n + 1, [], h, hm => by cases hm
 | n + 1, a :: r, h, hm => reachN_sub hp n _ h (reach1_mono _ _ h hm)
theorem stepA_ev {c : Cf} {ops : List Oper} {rs : RS} {path : Path} {o : Oper} {K : List Prop → List Way → List Nat → Prop} (h : stepA c ops rs.slf rs.hpf rs.nx rs.gd path o K) : ∃ vc ws ns, Ev c ops rs path o vc ws ns ∧ K vc ws ns := by
 unfold stepA at h
 split at h
 · rename_i x a b h1
   split at h
   · rename_i ap h2
     exact ⟨_, _, _, .pick x a b ap h1 h2, h⟩
   · exact h.elim
 · rename_i h0
   rw [forceL_eq] at h
   split at h
   · rename_i f h1
     rw [forceA_eq] at h
     split at h
     · rename_i g caps h2
       split at h
       · rename_i l h3
         rw [forceNs_eq] at h
         split at h
         · rename_i h4
           split at h
           · rename_i pre ws h5
             exact ⟨_, _, _, .call f g caps l _ pre ws h0 h1 h2 h3 h4 (fun h hm => reachN_sub _ _ _ h hm) h5, h⟩
           · exact h.elim
         · exact h.elim
       · exact h.elim
     · exact h.elim
   · rename_i h1
     rw [forceNs_eq] at h
     split at h
     · rename_i h4
       split at h
       · rename_i vc ap hw k h5
         exact ⟨_, _, _, .op _ vc ap hw k h0 h1 h4 (fun h hm => reachN_sub _ _ _ h hm) h5, h⟩
       · exact h.elim
     · exact h.elim
inductive Went (c : Cf) (ops : List Oper) (rs : RS) (o : Oper) : TE → Prop where
 | way (path : Path) (vc : List Prop) (ws : List Way) (ns : List Nat) (W : Way) (i : Nat) (hev : Ev c ops rs path o vc ws ns) (hW : ws[i]? = some W) (hon : ws.length ≠ 1 → pathProp rs.gd path → W.on) (hv : pathProp rs.gd path → ∀ p ∈ vc, p)
  (hk : keysOK ns rs.nx W.k W.hw = true) (hh : W.hw ≠ [] → pathProp rs.gd path) : Went c ops rs o ⟨path, W.ap, W.hw, ns, W.k⟩
 | skip (path : Path) (ns : List Nat) (hp : ¬ pathProp rs.gd path) : Went c ops rs o ⟨path, .any, [], ns, 0⟩
inductive Walk (c : Cf) (ops : List Oper) : List Oper → Nat → RS → List TE → RS → Prop where
 | done (i : Nat) (rs : RS) : Walk c ops [] i rs [] rs
 | step (o : Oper) (r : List Oper) (i : Nat) (rs : RS) (e : TE) (vc : List Prop) (es : List TE) (rsE : RS) (hp : pathOf rs.gd o = some e.path) (hd : dstOK o.dst c.N = true) (hw : Went c ops rs o e)
  (h : Walk c ops r (i + 1) (nextP i o.dst e.path e.ap e.hw e.k e.ns vc rs) es rsE) : Walk c ops (o :: r) i rs (e :: es) rsE
theorem goWay_spec {i : Nat} {dst : Option Nat} {path : Path} {ns : List Nat} {vc : List Prop} {go : RS → Prop} {rs : RS} {W : Way} (h : goWay i dst path ns vc go rs W) : keysOK ns rs.nx W.k W.hw = true ∧ go (nextP i dst path W.ap W.hw W.k ns vc rs) := by
 cases W with
 | mk on ap hw k =>
  unfold goWay at h
  dsimp only at h
  split at h
  · rename_i hk
    rw [forceA_eq, forceH_eq, forceN_eq] at h
    exact ⟨hk, nextRS_eq h⟩
  · exact h.elim
theorem goSkip_spec {i : Nat} {dst : Option Nat} {path : Path} {ns : List Nat} {vc : List Prop} {go : RS → Prop} {rs : RS} (h : goSkip i dst path ns vc go rs) : go (nextP i dst path .any [] 0 ns vc rs) := nextRS_eq h
theorem goWays_spec {i : Nat} {dst : Option Nat} {path : Path} {ns : List Nat} {vc : List Prop} {go : RS → Prop} {rs : RS} : ∀ {ws : List Way}, goWays i dst path ns vc go rs ws → ∀ (j : Nat) (W : Way), ws[j]? = some W → W.on → goWay i dst path ns vc go rs W
 | [], _, j, W, hj, _ => by simp at hj
 | V :: r, h, 0, W, hj, hon => by simp at hj; subst hj; exact (h.1 hon).out
 | V :: r, h, j + 1, W, hj, hon => goWays_spec h.2.out j W (by simpa using hj) hon
theorem goAll_spec {gd : List (Nat × (Prop × Path))} {i : Nat} {dst : Option Nat} {path : Path} {ns : List Nat} {vc : List Prop} {go : RS → Prop} {rs : RS} {ws : List Way} (h : goAll gd i dst path ns vc go rs ws)
    (hways : (∀ p ∈ vc, p) → pathProp gd path → ∃ (j : Nat) (W : Way), ws[j]? = some W ∧ W.on) :
    (∃ (j : Nat) (W : Way) (vc' : List Prop), ws[j]? = some W ∧ (ws.length ≠ 1 → pathProp gd path → W.on) ∧ keysOK ns rs.nx W.k W.hw = true ∧ (W.hw ≠ [] → pathProp gd path) ∧ go (nextP i dst path W.ap W.hw W.k ns vc' rs) ∧ ((∀ p ∈ vc', p) → ∀ p ∈ vc, p)) ∨
    ∃ vc', ¬ pathProp gd path ∧ go (nextP i dst path .any [] 0 ns vc' rs) ∧ ((∀ p ∈ vc', p) → ∀ p ∈ vc, p) := by
 by_cases h1 : ∃ W, ws = [W]
 · obtain ⟨W, rfl⟩ := h1
   cases path with
   | nil =>
    have h' : goWay i dst [] ns vc go rs W := by
     unfold goAll at h
     exact h
    obtain ⟨hk, hg⟩ := goWay_spec h'
    exact .inl ⟨0, W, vc, rfl, fun hl => (hl rfl).elim, hk, fun _ => trivial, hg, id⟩
   | cons e r =>
    cases hW : W.hw with
    | nil =>
     have h' : goWay i dst (e :: r) ns vc go rs W := by
      unfold goAll at h
      dsimp only at h
      rw [hW] at h
      exact h
     obtain ⟨hk, hg⟩ := goWay_spec h'
     exact .inl ⟨0, W, vc, rfl, fun hl => (hl rfl).elim, hk, fun hw => (hw hW).elim, hg, id⟩
    | cons a l =>
     have h' : condP gd (e :: r) True (fun p => (p → More (goWay i dst (e :: r) ns vc go rs W)) ∧ (¬ p → More (goSkip i dst (e :: r) ns vc go rs))) := by
      unfold goAll at h
      dsimp only at h
      rw [hW] at h
      exact h
     obtain ⟨q, hq, hiff⟩ := condP_spec _ _ _ h'
     by_cases hpp : pathProp gd (e :: r)
     · obtain ⟨hk, hg⟩ := goWay_spec (hq.1 (hiff.2 ⟨hpp, trivial⟩)).out
       exact .inl ⟨0, W, vc, rfl, fun hl => (hl rfl).elim, hk, fun _ => hpp, hg, id⟩
     · exact .inr ⟨vc, hpp, goSkip_spec (hq.2 (fun hqq => hpp (hiff.1 hqq).1)).out, id⟩
 · cases path with
   | nil =>
    have h' : allP vc ∧ More (goWays i dst [] ns [] go rs ws) := by
     unfold goAll at h
     split at h
     · rename_i W; exact (h1 ⟨W, rfl⟩).elim
     · exact h
    obtain ⟨hv, hg⟩ := h'
    have hvp := allP_spec hv
    obtain ⟨j, W, hj, hon⟩ := hways hvp trivial
    obtain ⟨hk, hg⟩ := goWay_spec (goWays_spec hg.out j W hj hon)
    exact .inl ⟨j, W, [], hj, fun _ _ => hon, hk, fun _ => trivial, hg, fun _ => hvp⟩
   | cons e r =>
    have h' : condP gd (e :: r) True (fun p => allP vc ∧ (p → More (goWays i dst (e :: r) ns [] go rs ws)) ∧ (¬ p → More (goSkip i dst (e :: r) ns [] go rs))) := by
     unfold goAll at h
     split at h
     · rename_i W; exact (h1 ⟨W, rfl⟩).elim
     · exact h
    obtain ⟨q, hq, hiff⟩ := condP_spec _ _ _ h'
    have hvp := allP_spec hq.1
    by_cases hpp : pathProp gd (e :: r)
    · obtain ⟨j, W, hj, hon⟩ := hways hvp hpp
      obtain ⟨hk, hg⟩ := goWay_spec (goWays_spec (hq.2.1 (hiff.2 ⟨hpp, trivial⟩)).out j W hj hon)
      exact .inl ⟨j, W, [], hj, fun _ _ => hon, hk, fun _ => hpp, hg, fun _ => hvp⟩
    · exact .inr ⟨[], hpp, goSkip_spec (hq.2.2 (fun hqq => hpp (hiff.1 hqq).1)).out, fun _ => hvp⟩
theorem nextP_vc (i : Nat) (dst : Option Nat) (path : Path) (ap : AP) (hw : List (Nat × HObj)) (k : Nat) (ns : List Nat) (vc : List Prop) (rs : RS) : (nextP i dst path ap hw k ns vc rs).vc = vc := rfl
theorem ev_ways {P : Program} {c : Cf} (hS : SpecsOK P c.gl c.F c.nz) {ops : List Oper} {rs : RS} {path : Path} {o : Oper} {vc : List Prop} {ws : List Way} {ns : List Nat} (h : Ev c ops rs path o vc ws ns) (hv : ∀ p ∈ vc, p) : ∃ (j : Nat) (W : Way), ws[j]? = some W ∧ W.on := by
 cases h with
 | pick x a b ap h1 h2 => exact ⟨0, _, rfl, trivial⟩
 | op _ _ ap hw k h0 h1 h4 h6 h5 => exact ⟨0, _, rfl, trivial⟩
 | split _ _ W p h hp =>
  by_cases hpp : p
  · exact ⟨0, _, rfl, hpp⟩
  · exact ⟨1, _, rfl, hpp⟩
 | call f g caps l _ pre _ h0 h1 h2 h3 h4 h6 h5 =>
  obtain ⟨S, hm, hc⟩ := callAny_of h5
  exact callA_on (hS g S hm).1 hc (hv _ List.mem_cons_self)
theorem runOps_walk {P : Program} {c : Cf} (hS : SpecsOK P c.gl c.F c.nz) {ops : List Oper} : ∀ (r : List Oper) (i : Nat) (rs : RS) (K : RS → Prop), runOps c false ops r i rs K → ∃ es rsE, K rsE ∧ ((∀ p ∈ rsE.vc, p) → Walk c ops r i rs es rsE ∧ ∀ p ∈ rs.vc, p)
 | [], i, rs, K, h => ⟨[], rs, h, fun hv => ⟨.done i rs, hv⟩⟩
 | o :: r, i, ⟨sl, hp, nx, gd, vc, tr, wr⟩, K, h => by
  unfold runOps at h
  split at h
  · rename_i path hpa hd
    split at h
    · obtain ⟨q, hq, hiff⟩ := condP_spec _ _ _ h
      have hnp : ¬ pathProp gd path := fun hpp => hq.1 (hiff.2 ⟨hpp, trivial⟩)
      obtain ⟨es, rsE, hK, hrest⟩ := runOps_walk hS r (i + 1) _ K (goSkip_spec hq.2.out)
      refine ⟨⟨path, .any, [], [], 0⟩ :: es, rsE, hK, fun hv => ?_⟩
      obtain ⟨hw, hvc⟩ := hrest hv
      exact ⟨.step o r i _ _ vc es rsE hpa hd (.skip path [] hnp) hw, hvc⟩
    obtain ⟨vc1, ws0, ns, hev0, h1⟩ := stepA_ev (rs := ⟨sl, hp, nx, gd, vc, tr, wr⟩) h
    obtain ⟨ws, hws⟩ : ∃ ws, ws = Gv.splitW c.spl o.dst ws0 := ⟨_, rfl⟩
    have hev := hev0.splitW c.spl o.dst
    rw [← hws] at h1 hev
    obtain ⟨vc', h2, h3⟩ := impAll_spec _ _ _ h1
    rcases goAll_spec h2 (fun hv hpp => ev_ways hS hev ((h3 hv).2 hpp)) with ⟨j, W, vc'', hj, hon, hk, hh, hgo, hvv⟩ | ⟨vc'', hnp, hgo, hvv⟩
    · obtain ⟨es, rsE, hK, hrest⟩ := runOps_walk hS r (i + 1) _ K hgo
      refine ⟨⟨path, W.ap, W.hw, ns, W.k⟩ :: es, rsE, hK, fun hv => ?_⟩
      obtain ⟨hw, hvc⟩ := hrest hv
      have hv1 := h3 (hvv hvc)
      exact ⟨.step o r i _ _ vc'' es rsE hpa hd (.way path vc1 ws ns W j hev hj hon hv1.2 hk hh) hw, hv1.1⟩
    · obtain ⟨es, rsE, hK, hrest⟩ := runOps_walk hS r (i + 1) _ K hgo
      refine ⟨⟨path, .any, [], ns, 0⟩ :: es, rsE, hK, fun hv => ?_⟩
      obtain ⟨hw, hvc⟩ := hrest hv
      exact ⟨.step o r i _ _ vc'' es rsE hpa hd (.skip path ns hnp) hw, (h3 (hvv hvc)).1⟩
  · exact h.elim
theorem goDyn_spec {gd : List (Nat × (Prop × Path))} {i : Nat} {dst : Option Nat} {path : Path} {vc : List Prop} {go : RS → Prop} {rs : RS} {D : Dyn} (h : goDyn gd i dst path vc go rs D) :
    (∀ p ∈ vc, p) ∧ (pathProp gd path → ∀ x, D.ok x → keysOK D.ns rs.nx (D.W x).k (D.W x).hw = true ∧ go (nextP i dst path (D.W x).ap (D.W x).hw (D.W x).k D.ns [] rs)) ∧ (¬ pathProp gd path → go (nextP i dst path .any [] 0 D.ns [] rs)) := by
 cases path with
 | nil =>
  obtain ⟨h1, h2⟩ := h
  exact ⟨allP_spec h1, fun _ x hx => goWay_spec (h2 x hx).out, fun hn => (hn trivial).elim⟩
 | cons e r =>
  obtain ⟨q, hq, hiff⟩ := condP_spec _ _ _ h
  exact ⟨allP_spec hq.1, fun hp x hx => goWay_spec ((hq.2.1 (hiff.2 ⟨hp, trivial⟩)).out x hx).out, fun hn => goSkip_spec (hq.2.2 (fun hqq => hn (hiff.1 hqq).1)).out⟩
theorem runOps_vc {P : Program} {c : Cf} (hS : SpecsOK P c.gl c.F c.nz) {y : Bool} {ops : List Oper} : ∀ (r : List Oper) (i : Nat) (rs : RS) (K : RS → Prop), runOps c y ops r i rs K → (∀ rsE, K rsE → ∀ p ∈ rsE.vc, p) → ∀ p ∈ rs.vc, p
 | [], i, rs, K, h, hK => hK rs h
 | o :: r, i, ⟨sl, hp, nx, gd, vc, tr, wr⟩, K, h, hK => by
  unfold runOps at h
  split at h
  · rename_i path hpa hd
    split at h
    · obtain ⟨q, hq, hiff⟩ := condP_spec _ _ _ h
      have := runOps_vc hS r (i + 1) _ K (goSkip_spec hq.2.out) hK
      exact this
    · split at h
      · obtain ⟨vc', h2, h3⟩ := impAll_spec _ _ _ h
        exact (h3 (goDyn_spec h2).1).1
      · obtain ⟨vc1, ws0, ns, hev0, h1⟩ := stepA_ev (rs := ⟨sl, hp, nx, gd, vc, tr, wr⟩) h
        obtain ⟨ws, hws⟩ : ∃ ws, ws = Gv.splitW c.spl o.dst ws0 := ⟨_, rfl⟩
        have hev := hev0.splitW c.spl o.dst
        rw [← hws] at h1 hev
        obtain ⟨vc', h2, h3⟩ := impAll_spec _ _ _ h1
        rcases goAll_spec h2 (fun hv hpp => ev_ways hS hev ((h3 hv).2 hpp)) with ⟨j, W, vc'', hj, hon, hk, hh, hgo, hvv⟩ | ⟨vc'', hnp, hgo, hvv⟩
        · have := runOps_vc hS r (i + 1) _ K hgo hK
          exact (h3 (hvv this)).1
        · have := runOps_vc hS r (i + 1) _ K hgo hK
          exact (h3 (hvv this)).1
  · exact h.elim
theorem runOps_step {P : Program} {c : Cf} (hS : SpecsOK P c.gl c.F c.nz) {y : Bool} {ops : List Oper} {o : Oper} {r : List Oper} {i : Nat} {rs : RS} {K : RS → Prop} (h : runOps c y ops (o :: r) i rs K) (hK : ∀ rsE, K rsE → ∀ p ∈ rsE.vc, p) :
    ∃ path, pathOf rs.gd o = some path ∧ dstOK o.dst c.N = true ∧ ((∃ e vc, e.path = path ∧ Went c ops rs o e ∧ runOps c y ops r (i + 1) (nextP i o.dst e.path e.ap e.hw e.k e.ns vc rs) K) ∨
     ∃ D, dynB c (wkN rs.hp) y rs.slf rs.hpf rs.nx path o = some D ∧ (pathProp rs.gd path → (∀ p ∈ D.vc, p) ∧ ∀ x, D.ok x → keysOK D.ns rs.nx (D.W x).k (D.W x).hw = true ∧ runOps c y ops r (i + 1) (nextP i o.dst path (D.W x).ap (D.W x).hw (D.W x).k D.ns [] rs) K) ∧
      (¬ pathProp rs.gd path → runOps c y ops r (i + 1) (nextP i o.dst path .any [] 0 D.ns [] rs) K)) := by
 obtain ⟨sl, hp, nx, gd, vc, tr, wr⟩ := rs
 unfold runOps at h
 split at h
 · rename_i path hpa hd
   refine ⟨path, hpa, hd, ?_⟩
   split at h
   · obtain ⟨q, hq, hiff⟩ := condP_spec _ _ _ h
     have hnp : ¬ pathProp gd path := fun hpp => hq.1 (hiff.2 ⟨hpp, trivial⟩)
     exact .inl ⟨⟨path, .any, [], [], 0⟩, vc, rfl, .skip path [] hnp, goSkip_spec hq.2.out⟩
   · split at h
     · rename_i D hD
       obtain ⟨vc', h2, h3⟩ := impAll_spec _ _ _ h
       obtain ⟨g1, g2, g3⟩ := goDyn_spec h2
       exact .inr ⟨D, hD, fun hp => ⟨(h3 g1).2 hp, g2 hp⟩, g3⟩
     · obtain ⟨vc1, ws0, ns, hev0, h1⟩ := stepA_ev (rs := ⟨sl, hp, nx, gd, vc, tr, wr⟩) h
       obtain ⟨ws, hws⟩ : ∃ ws, ws = Gv.splitW c.spl o.dst ws0 := ⟨_, rfl⟩
       have hev := hev0.splitW c.spl o.dst
       rw [← hws] at h1 hev
       obtain ⟨vc', h2, h3⟩ := impAll_spec _ _ _ h1
       rcases goAll_spec h2 (fun hv hpp => ev_ways hS hev ((h3 hv).2 hpp)) with ⟨j, W, vc'', hj, hon, hk, hh, hgo, hvv⟩ | ⟨vc'', hnp, hgo, hvv⟩
       · have hvn := runOps_vc hS r (i + 1) _ K hgo hK
         have hv1 := h3 (hvv hvn)
         exact .inl ⟨⟨path, W.ap, W.hw, ns, W.k⟩, vc'', rfl, .way path vc1 ws ns W j hev hj hon hv1.2 hk hh, hgo⟩
       · exact .inl ⟨⟨path, .any, [], ns, 0⟩, vc'', rfl, .skip path ns hnp, hgo⟩
 · exact h.elim
end Go.Gv

/- One operation, run where the state agrees with that of the text on what the operation looks at. -/
namespace Go.Gv
open Go
mutual
theorem sat_res : ∀ (X : AP) {β : Asg} {G : GW} {v : Value} {ns l : List Nat}, (∀ h ∈ namesA X l, h ∈ ns) → sat X β G v → sat X (resB β ns) G v
 | .any, _, _, _, _, _, _, h => h
 | .dat t x, _, _, _, _, _, _, h => by unfold sat at h ⊢; exact h
 | .blit b, _, _, _, _, _, _, h => by unfold sat at h ⊢; exact h
 | .val u, _, _, _, _, _, _, h => by unfold sat at h ⊢; exact h
 | .agg cs, _, _, _, _, _, hn, h => by unfold sat at h ⊢; obtain ⟨l, e, h⟩ := h; exact ⟨l, e, satL_res cs hn h⟩
 | .nil, _, _, _, _, _, _, h => by unfold sat at h; exact h.elim
 | .cons _ _, _, _, _, _, _, _, h => by unfold sat at h; exact h.elim
 | .tup vs, _, _, _, _, _, hn, h => by unfold sat at h ⊢; obtain ⟨l, e, h⟩ := h; exact ⟨l, e, satT_res vs hn h⟩
 | .ptr t x, _, _, _, _, _, _, h => by unfold sat at h ⊢; exact h
 | .ref h, _, _, _, _, _, hn, hs => by unfold sat at hs ⊢; rw [resB_in (hn h (addN_mem.2 (.inl rfl)))]; exact hs
 | .loc h off, _, _, _, _, _, hn, hs => by unfold sat at hs ⊢; rw [resB_in (hn h (addN_mem.2 (.inl rfl)))]; exact hs
 | .rloc h i sz off, _, _, _, _, _, hn, hs => by unfold sat at hs ⊢; rw [resB_in (hn h (addN_mem.2 (.inl rfl)))]; exact hs
 | .vw h k sz, _, _, _, _, _, hn, hs => by unfold sat at hs ⊢; rw [resB_in (hn h (addN_mem.2 (.inl rfl)))]; exact hs
 | .dec p, _, _, _, _, _, _, h => by unfold sat at h ⊢; exact h
 | .nxt p, _, _, _, _, _, _, h => by unfold sat at h ⊢; exact h
 | .sl h t xs, _, _, _, _, _, hn, hs => by unfold sat at hs ⊢; rw [resB_in (hn h (addN_mem.2 (.inl rfl)))]; exact hs
 | .clos f caps, _, _, _, _, _, hn, h => by unfold sat at h ⊢; obtain ⟨l, e, h⟩ := h; exact ⟨l, e, satT_res caps hn h⟩
theorem satL_res : ∀ (X : AP) {β : Asg} {G : GW} {vs : List Value} {ns l : List Nat}, (∀ h ∈ namesA X l, h ∈ ns) → satL X β G vs → satL X (resB β ns) G vs
 | .nil, _, _, _, _, _, _, h => by unfold satL at h ⊢; exact h
 | .cons a b, _, _, _, _, _, hn, hs => by
  unfold satL at hs ⊢
  obtain ⟨v, l', e, o, h1, h2⟩ := hs
  exact ⟨v, l', e, o, sat_res a hn h1, satL_res b (fun h hm => hn h (namesA_mono a hm)) h2⟩
 | .any, _, _, _, _, _, _, h => by unfold satL at h; exact h.elim
 | .dat _ _, _, _, _, _, _, _, h => by unfold satL at h; exact h.elim
 | .blit _, _, _, _, _, _, _, h => by unfold satL at h; exact h.elim
 | .val _, _, _, _, _, _, _, h => by unfold satL at h; exact h.elim
 | .agg _, _, _, _, _, _, _, h => by unfold satL at h; exact h.elim
 | .tup _, _, _, _, _, _, _, h => by unfold satL at h; exact h.elim
 | .ptr _ _, _, _, _, _, _, _, h => by unfold satL at h; exact h.elim
 | .ref _, _, _, _, _, _, _, h => by unfold satL at h; exact h.elim
 | .loc _ _, _, _, _, _, _, _, h => by unfold satL at h; exact h.elim
 | .rloc _ _ _ _, _, _, _, _, _, _, h => by unfold satL at h; exact h.elim
 | .vw _ _ _, _, _, _, _, _, _, h => by unfold satL at h; exact h.elim
 | .dec _, _, _, _, _, _, _, h => by unfold satL at h; exact h.elim
 | .nxt _, _, _, _, _, _, _, h => by unfold satL at h; exact h.elim
 | .sl _ _ _, _, _, _, _, _, _, h => by unfold satL at h; exact h.elim
 | .clos _ _, _, _, _, _, _, _, h => by unfold satL at h; exact h.elim
theorem satT_res : ∀ (X : AP) {β : Asg} {G : GW} {vs : List Value} {ns l : List Nat}, (∀ h ∈ namesA X l, h ∈ ns) → satT X β G vs → satT X (resB β ns) G vs
 | .nil, _, _, _, _, _, _, h => by unfold satT at h ⊢; exact h
 | .cons a b, _, _, _, _, _, hn, hs => by
  unfold satT at hs ⊢
  obtain ⟨v, l', e, h1, h2⟩ := hs
  exact ⟨v, l', e, sat_res a hn h1, satT_res b (fun h hm => hn h (namesA_mono a hm)) h2⟩
 | .any, _, _, _, _, _, _, h => by unfold satT at h; exact h.elim
 | .dat _ _, _, _, _, _, _, _, h => by unfold satT at h; exact h.elim
 | .blit _, _, _, _, _, _, _, h => by unfold satT at h; exact h.elim
 | .val _, _, _, _, _, _, _, h => by unfold satT at h; exact h.elim
 | .agg _, _, _, _, _, _, _, h => by unfold satT at h; exact h.elim
 | .tup _, _, _, _, _, _, _, h => by unfold satT at h; exact h.elim
 | .ptr _ _, _, _, _, _, _, _, h => by unfold satT at h; exact h.elim
 | .ref _, _, _, _, _, _, _, h => by unfold satT at h; exact h.elim
 | .loc _ _, _, _, _, _, _, _, h => by unfold satT at h; exact h.elim
 | .rloc _ _ _ _, _, _, _, _, _, _, h => by unfold satT at h; exact h.elim
 | .vw _ _ _, _, _, _, _, _, _, h => by unfold satT at h; exact h.elim
 | .dec _, _, _, _, _, _, _, h => by unfold satT at h; exact h.elim
 | .nxt _, _, _, _, _, _, _, h => by unfold satT at h; exact h.elim
 | .sl _ _ _, _, _, _, _, _, _, h => by unfold satT at h; exact h.elim
 | .clos _ _, _, _, _, _, _, _, h => by unfold satT at h; exact h.elim
end
theorem closedB_spec {hp : Nat → HObj} {ns : List Nat} : ∀ {l : List Nat}, closedB hp ns l = true → ∀ h ∈ l, ∀ n ∈ namesO (hp h) [], n ∈ ns
 | [], _, h, hm => by cases hm
 | a :: r, hc, h, hm => by
  unfold closedB at hc
  split at hc
  · rename_i hs
    rcases List.mem_cons.1 hm with rfl | hm
    · exact subN_spec hs
    · exact closedB_spec hc h hm
  · cases hc
where
 subN_spec {ns : List Nat} : ∀ {l : List Nat}, subN ns l = true → ∀ n ∈ l, n ∈ ns
  | [], _, n, hm => by cases hm
  | a :: r, h, n, hm => by
   unfold subN at h
   split at h
   · rename_i ha
     rcases List.mem_cons.1 hm with rfl | hm
     · exact memN_iff.1 ha
     · exact subN_spec h n hm
   · cases h
theorem namesL_mono : ∀ (l : List AP) {acc : List Nat} {h : Nat}, h ∈ acc → h ∈ namesL l acc
 | [], _, _, hm => hm
 | X :: r, _, _, hm => namesA_mono X (namesL_mono r hm)
theorem namesL_at : ∀ (l : List AP) (i : Nat) (X : AP), l[i]? = some X → ∃ acc, ∀ h ∈ namesA X acc, h ∈ namesL l []
 | [], i, X, h => by simp at h
 | Y :: r, 0, X, h => by simp at h; subst h; exact ⟨namesL r [], fun h hm => hm⟩
 | Y :: r, i + 1, X, h => by
  obtain ⟨acc, ha⟩ := namesL_at r i X (by simpa using h)
  exact ⟨acc, fun h hm => namesA_mono Y (ha h hm)⟩
theorem restrict_of {C : Ctx} {hp : Nat → HObj} {β : Asg} {G : GW} (H : HInv C hp β G) {ns : List Nat} (hc : closedB hp ns ns = true) : HInv (resC C hp β G ns) (resH hp ns) (resB β ns) G :=
 H.restrict ns fun h hm v _ hs => by
  cases ho : hp h with
  | box cs =>
   rw [ho] at hs
   obtain ⟨b, l, e, h1, h2⟩ := hs
   refine ⟨b, l, e, satL_res cs (l := []) (fun n hn => closedB_spec hc h hm n ?_) h1, h2⟩
   rw [ho]; exact hn
  | _ => rw [ho] at hs; exact hs
theorem closedB_congr {hp hp' : Nat → HObj} {ns : List Nat} : ∀ {l : List Nat}, (∀ n ∈ l, hp' n = hp n) → closedB hp' ns l = closedB hp ns l
 | [], _ => rfl
 | a :: r, h => by
  unfold closedB
  rw [h a List.mem_cons_self, closedB_congr (fun n hn => h n (List.mem_cons_of_mem _ hn))]
theorem keysOK_spec {ns : List Nat} {nx k : Nat} : ∀ {hw : List (Nat × HObj)}, keysOK ns nx k hw = true → ∀ h ∈ keysH hw, h < nx + k ∧ (h ∈ ns ∨ nx ≤ h)
 | [], _, h, hm => by simp [keysH] at hm
 | (a, o) :: r, hk, h, hm => by
  unfold keysOK at hk
  split at hk
  · rename_i hlt
    have hlt : a < nx + k := by unfold Nat.blt at hlt; exact Nat.le_of_ble_eq_true hlt
    simp only [keysH, List.map_cons, List.mem_cons] at hm
    split at hk
    · rename_i hmem
      rcases hm with rfl | hm
      · exact ⟨hlt, .inl (memN_iff.1 hmem)⟩
      · exact keysOK_spec hk h hm
    · split at hk
      · rename_i hle
        rcases hm with rfl | hm
        · exact ⟨hlt, .inr (Nat.le_of_ble_eq_true hle)⟩
        · exact keysOK_spec hk h hm
      · cases hk
  · cases hk
theorem constAP_sat {β : Asg} {G : GW} (v : Value) : sat (constAP v) β G v := by
 unfold constAP
 split
 · rename_i k n
   split
   · rename_i h
     unfold inR at h
     simp only [Bool.and_eq_true, decide_eq_true_eq] at h
     exact sat_int (has_iff.2 h)
   · unfold sat; trivial
 · unfold sat; rfl
 · rename_i s
   split
   · rename_i h
     have hl := Nat.le_of_ble_eq_true h
     have : sat (.dat .str s.data.toList) β G (strV s.data.toList) := sat_str (Nat.le_trans hl (by simp only [maxLen]; omega))
     have e : strV s.data.toList = .string s := by unfold strV; cases s; rfl
     rwa [e] at this
   · unfold sat; trivial
 · unfold sat; rfl
theorem inPath_spec {p : Path} {j : Nat} {w : Bool} (h : inPath p j w = true) : (j, w) ∈ p := by
 induction p with
 | nil => simp [inPath] at h
 | cons e r ih =>
  obtain ⟨k, v⟩ := e
  simp only [inPath] at h
  split at h
  · rename_i h1 h2
    have h1 := Nat.eq_of_beq_eq_true h1
    have h2 : v = w := by cases v <;> cases w <;> first | rfl | cases h2
    subst h1; subst h2; exact List.mem_cons_self
  · exact List.mem_cons_of_mem _ (ih h)
theorem subPath_spec : ∀ {a b : Path}, subPath a b = true → ∀ e ∈ a, e ∈ b
 | [], _, _, e, hm => by cases hm
 | (j, w) :: r, b, h, e, hm => by
  simp only [subPath] at h
  split at h
  · rename_i hi
    rcases List.mem_cons.1 hm with rfl | hm
    · exact inPath_spec hi
    · exact subPath_spec h e hm
  · cases h
theorem opA_sat {gl : Glob} {C : Ctx} (hg : C.glob = gl) {γ : Nat → Bool} {sl : Nat → PA} {sl' : Nat → PA} {hp' : Nat → HObj} {β : Asg} {a : Act} {G : GW} (H : Holds C γ ⟨sl', hp'⟩ β a G) {path : Path} (hp : pathOK γ path) (x : Operand) (hx : ∀ t, x = .tmp t → sl' t = sl t) :
    sat (opA gl sl path x) β G (a.eval x) := by
 cases x with
 | tmp t =>
  have hxt := hx t rfl
  show sat (match subPath (sl t).path path with | true => ptA (sl t).ap | false => .any) β G (a.tmps.getD t undef)
  rw [← hxt]
  cases hs : subPath (sl' t).path path with
  | true => exact ptA_sat <| (H.slots t).1 fun e he => hp e (subPath_spec hs e he)
  | false => unfold sat; trivial
 | const v => exact constAP_sat v
 | func f =>
  unfold opA sat
  exact ⟨[], rfl, by unfold satT; rfl⟩
 | global g =>
  show sat (match gl g with | some ⟨t, x⟩ => .ptr t x | none => .any) β G (.pointer (some ⟨g, 0, none⟩))
  cases he : gl g with
  | none => unfold sat; trivial
  | some p =>
   obtain ⟨t, y⟩ := p
   exact (H.inv.glob g t y (by rw [hg]; exact he)).sat β
theorem opnds_sub (op : Op) : ∀ x ∈ opnds op, x ∈ op.operands.toList := by
 cases op <;> intro x hx <;> simp only [opnds] at hx <;> try (simp_all [Op.operands]; done)
 · rename_i t r; cases r <;> simp_all [Op.operands]
 · rename_i t x' l h m
   cases l <;> cases h <;> cases m <;> simp_all [Op.operands]
 · rename_i c
   cases c with
   | mk callee args ats => cases callee <;> simp_all [Op.operands, Call.operands]
theorem callee_sub {op : Op} {f : Operand} (h : calleeOf op = some f) : f ∈ op.operands.toList := by
 unfold calleeOf at h
 split at h
 · simp only [Option.some.injEq] at h; subst h; simp [Op.operands, Call.operands]
 · cases h
end Go.Gv

/- Each operation that the generator has walked goes as it says. -/
namespace Go.Gv
open Go
theorem tmpOf_mono (x : Operand) {l : List Nat} {t : Nat} (h : t ∈ l) : t ∈ tmpOf x l := by
 cases x <;> first | exact List.mem_cons_of_mem _ h | exact h
theorem tmps_mem : ∀ (l : List Operand) {t : Nat}, Operand.tmp t ∈ l → t ∈ l.foldr tmpOf []
 | [], t, h => by cases h
 | x :: r, t, h => by
  simp only [List.foldr_cons]
  rcases List.mem_cons.1 h with e | h
  · rw [← e]; exact List.mem_cons_self
  · exact tmpOf_mono x (tmps_mem r h)
theorem reads_mem (ops : List Oper) (o : Oper) {t : Nat} (h : Operand.tmp t ∈ o.op.operands.toList) : t ∈ readsOf ops o := by
 have h1 := tmps_mem _ h
 unfold readsOf
 split
 · split
   · split
     · exact List.mem_cons_of_mem _ h1
     · exact h1
   · exact h1
 · exact h1
@[reducible] def WF (r : Option Nat) : Fence := { Fence.wide with round := r }
def OpGood (P : Program) (C : Ctx) (Q : Exit → Act → World → Prop) (γ : Nat → Bool) (ops : List Oper) (o : Oper) (sl : Nat → PA) (hp : Nat → HObj) (e : TE) : Prop :=
 ∀ (r : Option Nat) (a : Act) (β : Asg) (G : GW) (sl' : Nat → PA) (hp' : Nat → HObj), (∀ s ∈ readsOf ops o, sl' s = sl s) → (∀ h, h ∈ e.ns ∨ h ∈ keysH e.hw → hp' h = hp h) → Holds C γ ⟨sl', hp'⟩ β a G → pathOK γ e.path →
  ∀ K : Act → World → Prop, (∀ v β' G', HInv C (hset hp' e.hw) β' G' → β.le β' → G.le G' → sat e.ap β' G' v → K (a.put o.dst v) G'.w) → o.wpIn (WF r) 0 P a G.w K Q
theorem semAt_nd {o : Oper} (h : ∀ c, o.op ≠ .defer c) {r : Option Nat} {ρ : Operand → Value} : Oper.semAt (WF r).round ρ o = execOp ρ o := by
 cases r with
 | none => exact Oper.semAt_none _ _
 | some l => exact Oper.semAt_some l _ _ h
theorem wp_of_run {P : Program} {o : Oper} {a : Act} {w w' : World} {n : Next} {v : Value} {K : Act → World → Prop} {Q : Exit → Act → World → Prop} {r : Option Nat} (hnd : ∀ c, o.op ≠ .defer c) (hr : (execOp a.eval o).run P w = .ok n w') (hn : n = .value v ∨ (n = .skip ∧ v = undef)) (hK : K (a.put o.dst v) w') : o.wpIn (WF r) 0 P a w K Q := by
 refine ⟨fun _ _ => trivial, ?_⟩
 rw [semAt_nd hnd, hr]
 rcases hn with rfl | ⟨rfl, rfl⟩
 · exact hK
 · exact hK
theorem frame_back {C : Ctx} {hp : Nat → HObj} {β : Asg} {G : GW} (H : HInv C hp β G) {ns : List Nat} {hw : List (Nat × HObj)} {β1 : Asg} {G1 : GW} (H1 : HInv (resC C hp β G ns) (hset (resH hp ns) hw) β1 G1) (hle : (resB β ns).le β1)
    (hfr : ∀ h ∈ keysH hw, h ∉ ns → hp h = .none) : ∃ β2, HInv C (hset hp hw) β2 G1 ∧ β.le β2 ∧ β1.le β2 :=
 H.frame H1 hle (hset hp hw) (ks := keysH hw) (fun h hh => by
  by_cases hk : h ∈ keysH hw
  · exact hset_mem hk
  · rw [hset_not hk, hset_not hk, resH_in (hh.resolve_right hk)]) (fun h hh => by
  have hk : h ∉ keysH hw := fun e => hh (.inr e)
  have hn : h ∉ ns := fun e => hh (.inl e)
  exact ⟨hset_not hk, by rw [hset_not hk, resH_out hn]⟩) hfr
theorem opGood_op {P : Program} {c : Cf} (hE : c.E.ok P = true) {C : Ctx} (hg : GlobIs C c) {Q : Exit → Act → World → Prop} {γ : Nat → Bool} {ops : List Oper} {o : Oper} {rs : RS} (hfr : ∀ n, rs.nx ≤ n → rs.hpf n = .none) {path : Path} {ns : List Nat} {vc : List Prop} {ap : AP} {hw : List (Nat × HObj)} {k : Nat}
    (h4 : closedB rs.hpf ns ns = true) (h6 : ∀ h ∈ namesL ((opnds o.op).map (opA c.gl rs.slf path)) [], h ∈ ns) (h5 : evalOp c.E (resH rs.hpf ns) rs.nx (nonEmpty path) o.dst o.op ((opnds o.op).map (opA c.gl rs.slf path)) = some ⟨vc, ap, hw, k⟩)
    (hk : keysOK ns rs.nx k hw = true) (hv : ∀ p ∈ vc, p) : OpGood P C Q γ ops o rs.slf rs.hpf ⟨path, ap, hw, ns, k⟩ := by
 intro r a β G sl' hp' hsl hhp H hpath K hK
 have hres : resH hp' ns = resH rs.hpf ns := resH_congr fun n hn => hhp n (.inl hn)
 have hcl : closedB hp' ns ns = true := by rw [closedB_congr fun n hn => hhp n (.inl hn)]; exact h4
 have Hr := restrict_of H.inv hcl
 rw [← hres] at h5
 have hn : resH hp' ns rs.nx = .none := by
  by_cases hm : rs.nx ∈ ns
  · rw [resH_in hm, hhp _ (.inl hm)]; exact hfr _ (Nat.le_refl _)
  · exact resH_out hm
 have hrun := evalOp_sound (P := P) hE (a := a) (o := o) Hr hn h5 hv (by rw [List.length_map]) (fun i X hX => by
  rw [List.getElem?_map, Option.map_eq_some_iff] at hX
  obtain ⟨x, hx, rfl⟩ := hX
  refine ⟨x, hx, ?_⟩
  obtain ⟨acc, hacc⟩ := namesL_at ((opnds o.op).map (opA c.gl rs.slf path)) i _ (by rw [List.getElem?_map, hx]; rfl)
  refine sat_res _ (fun h hm => h6 h (hacc h hm)) (opA_sat hg.eq H hpath x fun t ht => hsl t (reads_mem ops o ?_))
  subst ht
  exact opnds_sub _ _ (List.mem_of_getElem? hx))
 obtain ⟨n, v, β1, G1, hr, hnv, H1, hb1, hg1, hs1⟩ := hrun
 obtain ⟨β2, H2, hb2, hb12⟩ := frame_back H.inv H1 hb1 (fun h hm hn => by
  obtain ⟨q1, q2⟩ := keysOK_spec hk h hm
  show hp' h = .none
  rw [hhp h (.inr hm)]; exact hfr h (q2.resolve_left hn))
 exact wp_of_run (fun c hc => by rw [hc] at h5; exact absurd h5 (by simp [evalOp])) hr hnv (hK v β2 G1 H2 hb2 hg1 (sat.mono ap hs1 hb12 G1.le_refl))
theorem unlistA_spec : ∀ {X : AP} {l : List AP}, unlistA X = some l → listA l = X
 | .nil, l, h => by simp only [unlistA, Option.some.injEq] at h; subst h; rfl
 | .cons a b, l, h => by
  unfold unlistA at h
  split at h
  · rename_i l' hl
    simp only [Option.some.injEq] at h; subst h
    show AP.cons a (listA l') = _
    rw [unlistA_spec hl]
  · cases h
 | .any, _, h => by cases h
 | .dat _ _, _, h => by cases h
 | .blit _, _, h => by cases h
 | .val _, _, h => by cases h
 | .agg _, _, h => by cases h
 | .tup _, _, h => by cases h
 | .ptr _ _, _, h => by cases h
 | .ref _, _, h => by cases h
 | .loc _ _, _, h => by cases h
 | .rloc _ _ _ _, _, h => by cases h
 | .vw _ _ _, _, h => by cases h
 | .dec _, _, h => by cases h
 | .nxt _, _, h => by cases h
 | .sl _ _ _, _, h => by cases h
 | .clos _ _, _, h => by cases h
theorem satT_append {β : Asg} {G : GW} : ∀ {l m : List AP} {u v : List Value}, satT (listA l) β G u → satT (listA m) β G v → satT (listA (l ++ m)) β G (u ++ v)
 | [], m, u, v, h, h' => by unfold listA satT at h; subst h; exact h'
 | X :: l, m, u, v, h, h' => by
  unfold listA satT at h
  obtain ⟨w, u', rfl, h1, h2⟩ := h
  unfold listA satT
  exact ⟨w, u' ++ v, rfl, h1, satT_append h2 h'⟩
theorem satT_map {gl : Glob} {β : Asg} {G : GW} {sl : Nat → PA} {path : Path} {a : Act} : ∀ (l : List Operand), (∀ x ∈ l, sat (opA gl sl path x) β G (a.eval x)) → satT (listA (l.map (opA gl sl path))) β G (l.map a.eval)
 | [], _ => by unfold List.map listA satT; rfl
 | x :: r, h => by
  show satT (.cons (opA gl sl path x) (listA (r.map (opA gl sl path)))) β G (a.eval x :: r.map a.eval)
  unfold satT
  exact ⟨_, _, rfl, h x List.mem_cons_self, satT_map r (fun y hy => h y (List.mem_cons_of_mem _ hy))⟩
theorem namesA_listA : ∀ (l : List AP) (acc : List Nat), namesA (listA l) acc = namesL l acc
 | [], _ => rfl
 | X :: r, acc => by
  show namesA X (namesA (listA r) acc) = namesA X (namesL r acc)
  rw [namesA_listA r acc]
theorem calA_sat {X : AP} {β : Asg} {G : GW} {v : Value} (h : sat X β G v) : sat (calA X) β G v := by
 unfold calA
 split
 · rcases fn_sat h with ⟨h1, _⟩ | ⟨g, h1, rfl⟩
   · cases h1
   · cases h1
     unfold sat
     exact ⟨[], rfl, by unfold satT; rfl⟩
 · exact h
theorem call_exec {P : Program} {g : Nat} {fn : Func} (hf : P.funcs[g]? = some fn) (hb : fn.body.isNone = false) (hnm : (fn.name == "runtime.NumGoroutine") = false) {o : Oper} {f : Operand} (ho : calleeOf o.op = some f) {ρ : Operand → Value} {caps : Array Value} (hρ : ρ f = .func (.func g) #[] caps) (w : World) :
    (execOp ρ o).run P w = .ok (.enter g (((opnds o.op).map ρ).toArray ++ caps)) w := by
 obtain ⟨dst, op, type, pos, after, guard⟩ := o
 dsimp only at ho ⊢
 unfold calleeOf at ho
 split at ho
 · rename_i f' args ats
   simp only [Option.some.injEq] at ho; subst ho
   have e : (args.toList.map ρ).toArray = args.map ρ := by
    apply Array.ext'
    simp only [Array.toList_map]
   have e2 : ((opnds (Op.call { callee := .value f', args := args, argTypes := ats })).map ρ).toArray = args.map ρ := e
   rw [e2]
   have hnm' : fn.name ≠ "runtime.NumGoroutine" := by simpa using hnm
   have hb' : fn.body ≠ none := by intro e; rw [e] at hb; cases hb
   simp [execOp, resolve, Deferred.ofValue, hρ, invoke, callFunc, hf, hb', hnm']
 · cases ho
theorem opGood_call {P : Program} {c : Cf} (hS : SpecsOK P c.gl c.F c.nz) {C : Ctx} (hg : GlobIs C c) {Q : Exit → Act → World → Prop} {γ : Nat → Bool} {ops : List Oper} {o : Oper} {rs : RS} (hfr : ∀ n, rs.nx ≤ n → rs.hpf n = .none) {path : Path} {f : Operand} {g : Nat} {caps : AP} {l : List AP} {ns : List Nat} {pre : Prop} {ws : List Way}
    (h1 : calleeOf o.op = some f) (h2 : calA (opA c.gl rs.slf path f) = .clos g caps) (h3 : unlistA caps = some l)
    (h4 : closedB rs.hpf ns ns = true) (h6 : ∀ h ∈ namesL ((opnds o.op).map (opA c.gl rs.slf path) ++ l) [], h ∈ ns) (h5 : callAny (resH rs.hpf ns) rs.nx ((opnds o.op).map (opA c.gl rs.slf path) ++ l) (c.F g) = some (pre, ws))
    (hpre : pre) {j : Nat} {W : Way} (hj : ws[j]? = some W) (hon : ws.length ≠ 1 → W.on) (hk : keysOK ns rs.nx W.k W.hw = true) : OpGood P C Q γ ops o rs.slf rs.hpf ⟨path, W.ap, W.hw, ns, W.k⟩ := by
 intro r a β G sl' hp' hsl hhp H hpath K hK
 have hres : resH hp' ns = resH rs.hpf ns := resH_congr fun n hn => hhp n (.inl hn)
 have hcl : closedB hp' ns ns = true := by rw [closedB_congr fun n hn => hhp n (.inl hn)]; exact h4
 have Hr := restrict_of H.inv hcl
 rw [← hres] at h5
 have hn : ∀ n, rs.nx ≤ n → resH hp' ns n = .none := fun n hle => by
  by_cases hm : n ∈ ns
  · rw [resH_in hm, hhp _ (.inl hm)]; exact hfr _ hle
  · exact resH_out hm
 have hsf := opA_sat hg.eq H hpath f (fun t ht => hsl t (reads_mem ops o (by rw [← ht]; exact callee_sub h1)))
 have hsf := calA_sat hsf
 rw [h2] at hsf
 unfold sat at hsf
 obtain ⟨cv, hcv, hcs⟩ := hsf
 have hargs : satT (listA ((opnds o.op).map (opA c.gl rs.slf path) ++ l)) β G ((opnds o.op).map a.eval ++ cv) :=
  satT_append (satT_map _ fun x hx => opA_sat hg.eq H hpath x fun t ht => hsl t (reads_mem ops o (by rw [← ht]; exact opnds_sub _ _ hx))) (by rw [unlistA_spec h3]; exact hcs)
 have hargs' := satT_res (listA ((opnds o.op).map (opA c.gl rs.slf path) ++ l)) (ns := ns) (l := []) (fun h hm => h6 h (by rw [← namesA_listA]; exact hm)) hargs
 obtain ⟨S, hm, hc⟩ := callAny_of h5
 have hSg := (hS g S hm).1
 obtain ⟨fn, hf, hb, hnm⟩ := hSg.1
 obtain ⟨i, W0, hi, hon0, huniq, hcalls⟩ := callA_run hSg hc hpre Hr hn (by exact hg.eq) (fun h => by show G.nz; rw [H.inv.step.nz]; exact hg.nz ((hS g S hm).2 h)) hargs'
 have hWW := huniq j W hj hon
 subst hWW
 refine ⟨fun _ _ => trivial, ?_⟩
 rw [semAt_nd (fun c hc => by rw [hc] at h1; cases h1), call_exec hf hb hnm h1 hcv]
 have e : ((opnds o.op).map a.eval).toArray ++ cv.toArray = ((opnds o.op).map a.eval ++ cv).toArray := by simp
 rw [e]
 refine ⟨fun h => (by cases h), CallsIn.mono (callsIn_wide.2 hcalls : CallsIn Fence.wide 0 P g _ G.w _) fun en w' hr => ?_⟩
 cases en with
 | panicked _ => exact hr.elim
 | outgrown => exact hr.elim
 | returned v =>
  obtain ⟨β1, G1, rfl, H1, hb1, hg1, hs1⟩ := hr
  obtain ⟨β2, H2, hb2, hb12⟩ := frame_back H.inv H1 hb1 (fun h hm hn => by
   obtain ⟨q1, q2⟩ := keysOK_spec hk h hm
   show hp' h = .none
   rw [hhp h (.inr hm)]; exact hfr h (q2.resolve_left hn))
  exact hK v β2 G1 H2 hb2 hg1 (sat.mono W.ap hs1 hb12 G1.le_refl)
end Go.Gv

/- Picks; the order of a region's operations. -/
namespace Go.Gv
open Go
theorem pick_exec {P : Program} {o : Oper} {x a0 b0 : Operand} (h : pickOf o.op = some (x, a0, b0)) {ρ : Operand → Value} {b : Bool} (hb : ρ x = .bool b) (w : World) : (execOp ρ o).run P w = .ok (.value (if b then ρ a0 else ρ b0)) w := by
 obtain ⟨dst, op, type, pos, after, guard⟩ := o
 dsimp only at h
 unfold pickOf at h
 split at h
 · simp only [Option.some.injEq, Prod.mk.injEq] at h; obtain ⟨rfl, rfl, rfl⟩ := h
   cases b <;> simp [execOp, asBool, hb]
 · cases h
theorem pick_sub {op : Op} {x a0 b0 : Operand} (h : pickOf op = some (x, a0, b0)) : x ∈ op.operands.toList ∧ a0 ∈ op.operands.toList ∧ b0 ∈ op.operands.toList := by
 unfold pickOf at h
 split at h
 · simp only [Option.some.injEq, Prod.mk.injEq] at h; obtain ⟨rfl, rfl, rfl⟩ := h
   simp [Op.operands]
 · cases h
theorem opGood_pick {P : Program} {c : Cf} {C : Ctx} (hg : C.glob = c.gl) {Q : Exit → Act → World → Prop} {γ : Nat → Bool} {ops : List Oper} {o : Oper} {rs : RS} {path : Path} {x a0 b0 : Operand} {ap : AP} (h1 : pickOf o.op = some (x, a0, b0)) (h2 : pickA c.gl ops rs.slf rs.gd path x a0 b0 = some ap)
    (hc : ∀ t j q, x = .tmp t → idxOf t ops 0 = some j → lookN rs.gd j = some q → ∃ ap, rs.slf t = ⟨q.2, ap⟩ ∧ propOf ap = some q.1 ∧ (γ j = true ↔ q.1)) : OpGood P C Q γ ops o rs.slf rs.hpf ⟨path, ap, [], [], 0⟩ := by
 intro r a β G sl' hp' hsl hhp H hpath K hK
 obtain ⟨m1, m2, m3⟩ := pick_sub h1
 have hsat : ∀ (pa : Path) (y : Operand), y ∈ o.op.operands.toList → pathOK γ pa → sat (opA c.gl rs.slf pa y) β G (a.eval y) := fun pa y hy hpa => opA_sat hg H hpa y fun t ht => hsl t (reads_mem ops o (by rw [← ht]; exact hy))
 have fin : ∀ (b : Bool), a.eval x = .bool b → sat ap β G (if b then a.eval a0 else a.eval b0) → o.wpIn (WF r) 0 P a G.w K Q := fun b hb hs =>
  wp_of_run (fun c hc => by rw [hc] at h1; cases h1) (pick_exec h1 hb G.w) (.inl rfl) (hK _ β G H.inv (Asg.le_refl β) G.le_refl hs)
 have hx := hsat path x m1 hpath
 have arm : ∀ b, opA c.gl rs.slf path x = .blit b → pathOK γ (gdPath x ops rs.gd b path) := fun b heq => by
  unfold gdPath
  split
  · rename_i t
    split
    · rename_i j hj
      split
      · rename_i q hq
        obtain ⟨apj, e1, e2, e3⟩ := hc t j q rfl hj hq
        have hb : apj = .blit b := by
         unfold opA at heq
         dsimp only at heq
         rw [e1] at heq
         dsimp only at heq
         split at heq
         · exact ptA_blit heq
         · cases heq
        rw [hb] at e2
        intro e he
        rcases List.mem_cons.1 he with rfl | he
        · cases b with
          | true => simp only [propOf, Option.some.injEq] at e2; exact e3.2 (by rw [← e2]; trivial)
          | false =>
           simp only [propOf, Option.some.injEq] at e2
           cases hg1 : γ j with
           | false => rfl
           | true => have := e3.1 hg1; rw [← e2] at this; exact this.elim
        · exact hpath e he
      · exact hpath
    · exact hpath
  · exact hpath
 unfold pickA at h2
 split at h2
 · rename_i heq
   simp only [Option.some.injEq] at h2; subst h2
   have hp := arm true heq
   rw [heq] at hx
   unfold sat at hx
   exact fin true hx (hsat _ a0 m2 hp)
 · rename_i heq
   simp only [Option.some.injEq] at h2; subst h2
   have hp := arm false heq
   rw [heq] at hx
   unfold sat at hx
   exact fin false hx (hsat _ b0 m3 hp)
 · rename_i n1 n2
   split at h2
   · rename_i p j hp hj
     split at h2
     · rename_i q hq
       obtain ⟨t, rfl, hidx⟩ : ∃ t, x = .tmp t ∧ idxOf t ops 0 = some j := by
        cases x with
        | tmp t => exact ⟨t, rfl, hj⟩
        | const v => cases hj
        | global v => cases hj
        | func v => cases hj
       obtain ⟨apj, e1, e2, e3⟩ := hc t j q rfl hidx hq
       have hpq : p = q.1 := by
        unfold opA at hp
        dsimp only at hp
        rw [e1] at hp
        dsimp only at hp
        split at hp
        · have hp := ptA_prop hp
          rw [e2] at hp; exact (Option.some.inj hp).symm
        · cases hp
       obtain ⟨bb, hbb, hiff⟩ := prop_val (propOf_sat hp hx)
       have hγ : γ j = bb := by
        have : γ j = true ↔ bb = true := by rw [e3, ← hpq, hiff]
        cases hb1 : γ j <;> cases hb2 : bb <;> simp_all
       have hA : bb = true → sat (opA c.gl rs.slf ((j, true) :: path) a0) β G (a.eval a0) := fun hb => hsat _ a0 m2 (fun e he => by
        rcases List.mem_cons.1 he with rfl | he
        · exact hγ.trans hb
        · exact hpath e he)
       have hB : bb = false → sat (opA c.gl rs.slf ((j, false) :: path) b0) β G (a.eval b0) := fun hb => hsat _ b0 m3 (fun e he => by
        rcases List.mem_cons.1 he with rfl | he
        · exact hγ.trans hb
        · exact hpath e he)
       split at h2
       · rename_i Y heqA
         split at h2
         · rename_i r hr
           simp only [Option.some.injEq] at h2; subst h2
           refine fin bb hbb ?_
           cases bb with
           | true =>
            have := hA rfl
            rw [heqA] at this
            unfold sat at this ⊢
            rw [if_pos rfl, this]
            exact ⟨fun _ => rfl, fun hn => (hn (.inl (hiff.1 rfl))).elim⟩
           | false =>
            have hnp : ¬ p := fun h => by have := hiff.2 h; cases this
            have hb0 := propOf_sat hr (hB rfl)
            unfold sat
            exact ⟨fun h => hb0.1 (h.resolve_left hnp), fun h => hb0.2 (fun hr => h (.inr hr))⟩
         · cases h2
       · rename_i Y heqB _
         split at h2
         · rename_i r hr
           simp only [Option.some.injEq] at h2; subst h2
           refine fin bb hbb ?_
           cases bb with
           | true =>
            have hpp := hiff.1 rfl
            have ha0 := propOf_sat hr (hA rfl)
            unfold sat
            exact ⟨fun h => ha0.1 h.2, fun h => ha0.2 (fun hr => h ⟨hpp, hr⟩)⟩
           | false =>
            have hnp : ¬ p := fun h => by have := hiff.2 h; cases this
            have := hB rfl
            rw [heqB] at this
            unfold sat at this ⊢
            exact ⟨fun h => (hnp h.1).elim, fun _ => this⟩
         · cases h2
       · split at h2
         · rename_i r1 r2 hr1 hr2
           simp only [Option.some.injEq] at h2; subst h2
           refine fin bb hbb ?_
           cases bb with
           | true =>
            have hpp := hiff.1 rfl
            have ha0 := propOf_sat hr1 (hA rfl)
            unfold sat
            exact ⟨fun h => ha0.1 (h.elim (fun h => h.2) (fun h => (h.1 hpp).elim)), fun h => ha0.2 (fun hr => h (.inl ⟨hpp, hr⟩))⟩
           | false =>
            have hnp : ¬ p := fun h => by have := hiff.2 h; cases this
            have hb0 := propOf_sat hr2 (hB rfl)
            unfold sat
            exact ⟨fun h => hb0.1 (h.elim (fun h => (hnp h.1).elim) (fun h => h.2)), fun h => hb0.2 (fun hr => h (.inr ⟨hnp, hr⟩))⟩
         · cases h2
     · cases h2
   · cases h2
def atD {A : Type} : List (Nat → Option A) → (Nat → Bool) → Nat → (Nat → A) → Nat → A
 | [], _, _, f => f
 | w :: r, D, i, f => atD r D (i + 1) (match D i with | true => fun s => (w s).getD (f s) | false => f)
theorem atD_congr {A : Type} : ∀ (ws : List (Nat → Option A)) (D D' : Nat → Bool) (i : Nat) (f f' : Nat → A) (s : Nat), (∀ j w, ws[j]? = some w → (w s).isSome = true → D (i + j) = D' (i + j)) → f s = f' s → atD ws D i f s = atD ws D' i f' s
 | [], _, _, _, _, _, _, _, h => h
 | w :: r, D, D', i, f, f', s, hd, h => by
  refine atD_congr r D D' (i + 1) _ _ s (fun j w' hj hs => by
   have := hd (j + 1) w' (by simpa using hj) hs
   rwa [show i + (j + 1) = i + 1 + j by omega] at this) ?_
  cases hw : w s with
  | none =>
   cases D i <;> cases D' i <;> simp [hw, h]
  | some x =>
   have := hd 0 w rfl (by rw [hw]; rfl)
   rw [Nat.add_zero] at this
   rw [this]
   cases D' i <;> simp [hw, h]
theorem atD_add {A : Type} : ∀ (ws : List (Nat → Option A)) (D : Nat → Bool) (i : Nat) (f : Nat → A) (k : Nat) (w : Nat → Option A) (s : Nat), ws[k]? = some w → D (i + k) = false → (∀ j w', ws[j]? = some w' → k < j → (w s).isSome = true → (w' s).isSome = true → D (i + j) = false) →
    atD ws (fun n => D n || n == i + k) i f s = (w s).getD (atD ws D i f s)
 | [], _, _, _, k, w, s, h, _, _ => by simp at h
 | v :: r, D, i, f, 0, w, s, h, hk, hl => by
  simp at h; subst h
  rw [Nat.add_zero] at hk
  simp only [atD, Nat.add_zero]
  rw [hk]
  simp only [Bool.false_or, beq_self_eq_true]
  cases hv : v s with
  | none =>
   simp only [Option.getD_none]
   exact atD_congr r _ _ (i + 1) _ _ s (fun j w' hj hs => by
    have : (i + 1 + j == i) = false := by simp; omega
    rw [this, Bool.or_false]) (by simp [hv])
  | some x =>
   simp only [Option.getD_some]
   have h1 : atD r (fun n => D n || n == i) (i + 1) (fun s => (v s).getD (f s)) s = atD r (fun _ => false) (i + 1) (fun s => (v s).getD (f s)) s :=
    atD_congr r _ _ (i + 1) _ _ s (fun j w' hj hs => by
     have h2 := hl (j + 1) w' (by simpa using hj) (by omega) (by rw [hv]; rfl) hs
     rw [show i + 1 + j = i + (j + 1) by omega, h2]
     simp) rfl
   have h3 : ∀ (r : List (Nat → Option A)) (i : Nat) (f : Nat → A), atD r (fun _ => false) i f = f := by
    intro r
    induction r with
    | nil => intro i f; rfl
    | cons a r ih => intro i f; exact ih (i + 1) f
   rw [h1, h3]
   simp [hv]
 | v :: r, D, i, f, k + 1, w, s, h, hk, hl => by
  have hne : (i == i + (k + 1)) = false := by simp
  simp only [atD, hne, Bool.or_false]
  have := atD_add r D (i + 1) (match D i with | true => fun s => (v s).getD (f s) | false => f) k w s (by simpa using h) (by rw [show i + 1 + k = i + (k + 1) by omega]; exact hk) (fun j w' hj hkj hs hs' => by
   have := hl (j + 1) w' (by simpa using hj) (by omega) hs hs'
   rwa [show i + (j + 1) = i + 1 + j by omega] at this)
  rwa [show i + 1 + k = i + (k + 1) by omega] at this
end Go.Gv

/- The states of a walk over a region, one by one. -/
namespace Go.Gv
open Go
def slW (o : Oper) (e : TE) : Nat → Option PA := fun s => match o.dst with
 | some d => if s = d then some ⟨e.path, e.ap⟩ else none
 | none => none
def lookH : List (Nat × HObj) → Nat → Option HObj
 | [], _ => none
 | (k, o) :: r, h => if h = k then some o else lookH r h
def hpW (e : TE) : Nat → Option HObj := lookH e.hw
theorem hset_look (hp : Nat → HObj) : ∀ (hw : List (Nat × HObj)) (h : Nat), hset hp hw h = (lookH hw h).getD (hp h)
 | [], h => rfl
 | (k, o) :: r, h => by
  simp only [hset, lookH]
  split
  · rfl
  · exact hset_look hp r h
theorem lookH_some {hw : List (Nat × HObj)} {h : Nat} : (lookH hw h).isSome = true ↔ h ∈ keysH hw := by
 induction hw with
 | nil => simp [lookH, keysH]
 | cons e r ih =>
  obtain ⟨k, o⟩ := e
  simp only [lookH, keysH, List.map_cons, List.mem_cons]
  by_cases hk : h = k
  · simp [hk]
  · rw [if_neg hk, ih]; simp [hk, keysH]
theorem slW_some {o : Oper} {e : TE} {s : Nat} : (slW o e s).isSome = true ↔ o.dst = some s := by
 unfold slW
 split
 · rename_i d hd
   rw [hd]
   by_cases h : s = d
   · simp [h]
   · rw [if_neg h]; simp; exact fun e => h e.symm
 · rename_i hd; rw [hd]; simp
def lex (i : Nat) : Nat → Bool := fun k => decide (k < i)
theorem lex_succ {A : Type} {ws : List (Nat → Option A)} {i : Nat} {w : Nat → Option A} (h : ws[i]? = some w) (f : Nat → A) (s : Nat) : atD ws (lex (i + 1)) 0 f s = (w s).getD (atD ws (lex i) 0 f s) := by
 have h1 := atD_add ws (lex i) 0 f i w s h (by simp [lex]) (fun j w' _ hij _ _ => by simp [lex]; omega)
 have h2 : (fun n => lex i n || n == 0 + i) = lex (i + 1) := by
  funext n
  simp only [lex, Nat.zero_add]
  by_cases h1 : n < i
  · simp [h1]; omega
  · by_cases h2 : n = i
    · simp [h2]
    · have : ¬ n < i + 1 := by omega
      simp [h1, h2, this]
 rw [h2] at h1
 exact h1
def WSof (L : List Oper) (E : List TE) : List (Nat → Option PA) := List.zipWith slW L E
def WHof (E : List TE) : List (Nat → Option HObj) := E.map hpW
theorem WSof_at {L : List Oper} {E : List TE} {i : Nat} {o : Oper} {e : TE} (h1 : L[i]? = some o) (h2 : E[i]? = some e) : (WSof L E)[i]? = some (slW o e) := by
 unfold WSof
 rw [List.getElem?_zipWith, h1, h2]
theorem WSof_inv {L : List Oper} {E : List TE} {i : Nat} {w : Nat → Option PA} (h : (WSof L E)[i]? = some w) : ∃ o e, L[i]? = some o ∧ E[i]? = some e ∧ w = slW o e := by
 unfold WSof at h
 rw [List.getElem?_zipWith] at h
 split at h
 · rename_i a b h1 h2
   exact ⟨a, b, h1, h2, (Option.some.inj h).symm⟩
 · cases h
theorem WHof_at {E : List TE} {i : Nat} {e : TE} (h2 : E[i]? = some e) : (WHof E)[i]? = some (hpW e) := by
 unfold WHof; rw [List.getElem?_map, h2]; rfl
theorem WHof_inv {E : List TE} {i : Nat} {w : Nat → Option HObj} (h : (WHof E)[i]? = some w) : ∃ e, E[i]? = some e ∧ w = hpW e := by
 unfold WHof at h
 rw [List.getElem?_map, Option.map_eq_some_iff] at h
 obtain ⟨e, h1, h2⟩ := h
 exact ⟨e, h1, h2.symm⟩
noncomputable def gam (E : List TE) : Nat → Bool := fun j => match E[j]? with
 | some e => match propOf e.ap with
  | some p => boolOf p
  | none => false
 | none => false
theorem gam_iff {E : List TE} {j : Nat} {e : TE} {p : Prop} (h1 : E[j]? = some e) (h2 : propOf e.ap = some p) : gam E j = true ↔ p := by
 unfold gam
 rw [h1]
 dsimp only
 rw [h2]
 exact boolOf_true
structure GD (L : List Oper) (E : List TE) (i : Nat) (gd : List (Nat × (Prop × Path))) : Prop where
 all : ∀ k p pp, lookN gd k = some (p, pp) → k < i ∧ (∃ o e d, L[k]? = some o ∧ E[k]? = some e ∧ e.path = pp ∧ propOf e.ap = some p ∧ o.dst = some d) ∧ ∀ x ∈ pp, ∃ q, lookN gd x.1 = some q
theorem GD.gam {L : List Oper} {E : List TE} {i : Nat} {gd : List (Nat × (Prop × Path))} (h : GD L E i gd) {k : Nat} {p : Prop} {pp : Path} (hl : lookN gd k = some (p, pp)) : Gv.gam E k = true ↔ p := by
 obtain ⟨_, ⟨o, e, d, _, h2, _, h4, _⟩, _⟩ := h.all k p pp hl
 exact gam_iff h2 h4
theorem GD.path {L : List Oper} {E : List TE} {i : Nat} {gd : List (Nat × (Prop × Path))} (h : GD L E i gd) : ∀ (path : Path), (∀ x ∈ path, ∃ q, lookN gd x.1 = some q) → (pathProp gd path ↔ pathOK (Gv.gam E) path)
 | [], _ => ⟨fun _ e he => by (cases he), fun _ => trivial⟩
 | (j, true) :: r, hp => by
  obtain ⟨⟨p, pp⟩, hq⟩ := hp (j, true) List.mem_cons_self
  rw [pathProp_t hq, GD.path h r (fun x hx => hp x (List.mem_cons_of_mem _ hx)), ← h.gam hq]
  constructor
  · rintro ⟨h1, h2⟩ e he
    rcases List.mem_cons.1 he with rfl | he
    · exact h1
    · exact h2 e he
  · exact fun h => ⟨h (j, true) List.mem_cons_self, fun e he => h e (List.mem_cons_of_mem _ he)⟩
 | (j, false) :: r, hp => by
  obtain ⟨⟨p, pp⟩, hq⟩ := hp (j, false) List.mem_cons_self
  rw [pathProp_f hq, GD.path h r (fun x hx => hp x (List.mem_cons_of_mem _ hx)), ← h.gam hq]
  constructor
  · rintro ⟨h1, h2⟩ e he
    rcases List.mem_cons.1 he with rfl | he
    · simpa using h1
    · exact h2 e he
  · exact fun h => ⟨by have := h (j, false) List.mem_cons_self; simpa using this, fun e he => h e (List.mem_cons_of_mem _ he)⟩
theorem pathOf_in {L : List Oper} {E : List TE} {i : Nat} {gd : List (Nat × (Prop × Path))} (h : GD L E i gd) {o : Oper} {path : Path} (hp : pathOf gd o = some path) : ∀ x ∈ path, ∃ q, lookN gd x.1 = some q := by
 unfold pathOf at hp
 split at hp
 · simp only [Option.some.injEq] at hp; subst hp; intro x hx; cases hx
 · rename_i j w hg
   split at hp
   · rename_i p pp hl
     simp only [Option.some.injEq] at hp; subst hp
     intro x hx
     rcases List.mem_cons.1 hx with rfl | hx
     · exact ⟨_, hl⟩
     · exact (h.all j p pp hl).2.2 x hx
   · cases hp
structure AtI (c : Cf) (L : List Oper) (E : List TE) (sl0 : Nat → PA) (hp0 : Nat → HObj) (i : Nat) (rs : RS) : Prop where
 slf : rs.slf = atD (WSof L E) (lex i) 0 sl0
 hpf : rs.hpf = atD (WHof E) (lex i) 0 hp0
 fresh : ∀ n, rs.nx ≤ n → rs.hpf n = .none
 gd : GD L E i rs.gd
 pth : ∀ s, ∀ x ∈ (rs.slf s).path, ∃ q, lookN rs.gd x.1 = some q
structure OpAt (c : Cf) (L : List Oper) (E : List TE) (sl0 : Nat → PA) (hp0 : Nat → HObj) (i : Nat) (o : Oper) (e : TE) : Prop where
 ex : ∃ rs, AtI c L E sl0 hp0 i rs ∧ pathOf rs.gd o = some e.path ∧ dstOK o.dst c.N = true ∧ Went c L rs o e
theorem went_keys {c : Cf} {L : List Oper} {rs : RS} {o : Oper} {e : TE} (h : Went c L rs o e) : ∀ h ∈ keysH e.hw, h < rs.nx + e.k := by
 cases h with
 | way path vc ws ns W i hev hW hon hv hk hh => exact fun h hm => (keysOK_spec hk h hm).1
 | skip path ns hp => exact fun h hm => by cases hm
theorem nextP_slf (i : Nat) (o : Oper) (e : TE) (vc : List Prop) (rs : RS) (s : Nat) : (nextP i o.dst e.path e.ap e.hw e.k e.ns vc rs).slf s = (slW o e s).getD (rs.slf s) := by
 unfold nextP RS.slf slW
 dsimp only
 cases o.dst with
 | none => rfl
 | some d =>
  simp only [lookN]
  by_cases h : s = d
  · subst h; simp
  · have : Nat.beq d s = false := by
     cases hb : Nat.beq d s with
     | false => rfl
     | true => exact (h (Nat.eq_of_beq_eq_true hb).symm).elim
    rw [this, if_neg h]; rfl
theorem lookN_append (hw l : List (Nat × HObj)) (h : Nat) : (match lookN (hw ++ l) h with | some o => o | none => HObj.none) = (lookH hw h).getD (match lookN l h with | some o => o | none => HObj.none) := by
 induction hw with
 | nil => rfl
 | cons e r ih =>
  obtain ⟨k, o⟩ := e
  simp only [List.cons_append, lookN, lookH]
  by_cases hk : h = k
  · subst hk; simp
  · have : Nat.beq k h = false := by
     cases hb : Nat.beq k h with
     | false => rfl
     | true => exact (hk (Nat.eq_of_beq_eq_true hb).symm).elim
    rw [this, if_neg hk]; exact ih
theorem nextP_hpf (i : Nat) (o : Oper) (e : TE) (vc : List Prop) (rs : RS) (h : Nat) : (nextP i o.dst e.path e.ap e.hw e.k e.ns vc rs).hpf h = (hpW e h).getD (rs.hpf h) := lookN_append e.hw rs.hp h
theorem drop_cons {A : Type} {l r : List A} {i : Nat} {a : A} (h : a :: r = l.drop i) : l[i]? = some a ∧ r = l.drop (i + 1) := by
 have h1 : (l.drop i)[0]? = some a := by rw [← h]; rfl
 rw [List.getElem?_drop, Nat.add_zero] at h1
 refine ⟨h1, ?_⟩
 have : (l.drop i).drop 1 = r := by rw [← h]; rfl
 rw [← this, List.drop_drop]
theorem AtI.next {c : Cf} {L : List Oper} {E : List TE} {sl0 : Nat → PA} {hp0 : Nat → HObj} {i : Nat} {rs : RS} (h3 : AtI c L E sl0 hp0 i rs) {o : Oper} {e : TE} (h1a : L[i]? = some o) (h2a : E[i]? = some e) (hp : pathOf rs.gd o = some e.path) (hkeys : ∀ h ∈ keysH e.hw, h < rs.nx + e.k) (vc : List Prop) :
    AtI c L E sl0 hp0 (i + 1) (nextP i o.dst e.path e.ap e.hw e.k e.ns vc rs) := by
 have hin := pathOf_in h3.gd hp
 exact
  { slf := by
     funext s
     rw [nextP_slf, lex_succ (WSof_at h1a h2a), ← h3.slf]
    hpf := by
     funext s
     rw [nextP_hpf, lex_succ (WHof_at h2a), ← h3.hpf]
    fresh := fun n hn => by
     have hn' : rs.nx + e.k ≤ n := hn
     rw [nextP_hpf]
     have : hpW e n = none := by
      cases hl : hpW e n with
      | none => rfl
      | some x =>
       have := hkeys n (lookH_some.1 (by show (hpW e n).isSome = true; rw [hl]; rfl))
       omega
     rw [this]
     exact h3.fresh n (by omega)
    gd := ⟨fun k p pp hl => by
     have key : lookN rs.gd k = some (p, pp) ∨ (k = i ∧ propOf e.ap = some p ∧ pp = e.path ∧ ∃ d, o.dst = some d) := by
      unfold nextP at hl
      dsimp only at hl
      split at hl
      · rename_i d q hdst hq
        simp only [lookN] at hl
        split at hl
        · rename_i hb
          have hb := Nat.eq_of_beq_eq_true hb
          simp only [Option.some.injEq, Prod.mk.injEq] at hl
          exact .inr ⟨hb.symm, by rw [hq, hl.1], hl.2.symm, d, hdst⟩
        · exact .inl hl
      · exact .inl hl
     have mono : ∀ (x : Nat) q, lookN rs.gd x = some q → ∃ q, lookN (nextP i o.dst e.path e.ap e.hw e.k e.ns vc rs).gd x = some q := fun x q hq => by
      unfold nextP
      dsimp only
      split
      · simp only [lookN]
        split
        · exact ⟨_, rfl⟩
        · exact ⟨_, hq⟩
      · exact ⟨_, hq⟩
     rcases key with hl | ⟨rfl, h5, rfl, d, hd'⟩
     · obtain ⟨g1, g2, g3⟩ := h3.gd.all k p pp hl
       exact ⟨by omega, g2, fun x hx => by obtain ⟨q, hq⟩ := g3 x hx; exact mono x.1 q hq⟩
     · exact ⟨by omega, ⟨o, e, d, h1a, h2a, rfl, h5, hd'⟩, fun x hx => by obtain ⟨q, hq⟩ := hin x hx; exact mono x.1 q hq⟩⟩
    pth := fun s x hx => by
     have mono : ∀ (x : Nat) q, lookN rs.gd x = some q → ∃ q, lookN (nextP i o.dst e.path e.ap e.hw e.k e.ns vc rs).gd x = some q := fun x q hq => by
      unfold nextP
      dsimp only
      split
      · simp only [lookN]
        split
        · exact ⟨_, rfl⟩
        · exact ⟨_, hq⟩
      · exact ⟨_, hq⟩
     rw [nextP_slf] at hx
     cases hw : slW o e s with
     | none =>
      rw [hw] at hx
      obtain ⟨q, hq⟩ := h3.pth s x hx
      exact mono x.1 q hq
     | some pa =>
      rw [hw] at hx
      have hpp : pa.path = e.path := by
       unfold slW at hw
       split at hw
       · split at hw
         · simp only [Option.some.injEq] at hw; rw [← hw]
         · cases hw
       · cases hw
      have hx : x ∈ pa.path := hx
      rw [hpp] at hx
      obtain ⟨q, hq⟩ := hin x hx
      exact mono x.1 q hq }
theorem walk_states {c : Cf} {L : List Oper} {E : List TE} {sl0 : Nat → PA} {hp0 : Nat → HObj} {r : List Oper} {i : Nat} {rs : RS} {es : List TE} {rsE : RS} (h : Walk c L r i rs es rsE) : r = L.drop i → es = E.drop i → AtI c L E sl0 hp0 i rs →
    (∀ j o, i ≤ j → L[j]? = some o → ∃ e, E[j]? = some e ∧ OpAt c L E sl0 hp0 j o e) ∧ AtI c L E sl0 hp0 (i + r.length) rsE ∧ es.length = r.length ∧ rs.nx ≤ rsE.nx := by
 induction h with
 | done i rs =>
  intro h1 h2 h3
  refine ⟨fun j o hij hj => ?_, h3, rfl, Nat.le_refl _⟩
  have : L.length ≤ i := by have := congrArg List.length h1; simp at this; omega
  have := (List.getElem?_eq_some_iff.1 hj).1
  omega
 | step o r i rs e vc es rsE hp hd hw hrest ih =>
  intro h1 h2 h3
  obtain ⟨h1a, h1b⟩ := drop_cons h1
  obtain ⟨h2a, h2b⟩ := drop_cons h2
  have hin := pathOf_in h3.gd hp
  have hnext := h3.next h1a h2a hp (went_keys hw) vc
  obtain ⟨i1, i2, i3, i4⟩ := ih h1b h2b hnext
  refine ⟨fun j o' hij hj => ?_, ?_, by simp [i3], Nat.le_trans (Nat.le_add_right _ _) i4⟩
  · by_cases hji : j = i
    · subst hji
      rw [h1a] at hj; cases hj
      exact ⟨e, h2a, ⟨rs, h3, hp, hd, hw⟩⟩
    · exact i1 j o' (by omega) hj
  · have : i + (o :: r).length = i + 1 + r.length := by simp; omega
    rw [this]; exact i2
end Go.Gv

/- One operation of a region, run behind any set of others that fits: the invariant is carried on. -/
namespace Go.Gv
open Go
theorem uniqB_spec {d g : Nat} : ∀ {l : List Oper} {i : Nat}, uniqB d g l i = true → ∀ (j : Nat) (o : Oper), l[j]? = some o → o.dst = some d → i + j = g
 | [], _, _, j, o, h, _ => by simp at h
 | a :: r, i, h, j, o, hj, hd => by
  unfold uniqB at h
  cases j with
  | zero =>
   simp at hj; subst hj
   rw [hd] at h
   dsimp only at h
   have hb : Nat.beq d d = true := by simp
   rw [hb] at h
   cases hg : Nat.beq i g with
   | true => rw [Nat.add_zero]; exact Nat.eq_of_beq_eq_true hg
   | false => rw [hg] at h; cases h
  | succ j =>
   have hr : uniqB d g r (i + 1) = true := by
    split at h
    · split at h
      · cases h
      · exact h
    · exact h
   have := uniqB_spec hr j o (by simpa using hj) hd
   omega
theorem idxOf_spec {t : Nat} : ∀ {l : List Oper} {i j : Nat}, idxOf t l i = some j → i ≤ j ∧ ∃ o, l[j - i]? = some o ∧ o.dst = some t
 | [], _, _, h => by cases h
 | o :: r, i, j, h => by
  unfold idxOf at h
  split at h
  · rename_i d hd
    split at h
    · rename_i hb
      have hb := Nat.eq_of_beq_eq_true hb
      simp only [Option.some.injEq] at h; subst h
      exact ⟨Nat.le_refl _, o, by rw [Nat.sub_self]; rfl, by rw [hd, hb]⟩
    · obtain ⟨h1, o', h2, h3⟩ := idxOf_spec h
      exact ⟨by omega, o', by rw [show j - i = j - (i + 1) + 1 by omega]; simpa using h2, h3⟩
  · obtain ⟨h1, o', h2, h3⟩ := idxOf_spec h
    exact ⟨by omega, o', by rw [show j - i = j - (i + 1) + 1 by omega]; simpa using h2, h3⟩
theorem gdB_spec {ops : List Oper} : ∀ {l : List Oper}, gdB ops l = true → ∀ o ∈ l, gdOne ops o = true
 | [], _, o, h => by cases h
 | a :: r, h, o, hm => by
  unfold gdB at h
  split at h
  · rename_i ha
    rcases List.mem_cons.1 hm with rfl | hm
    · exact ha
    · exact gdB_spec h o hm
  · cases h
theorem uniq_content {L : List Oper} {E : List TE} {sl0 : Nat → PA} {g d : Nat} {o : Oper} {e : TE} (ho : L[g]? = some o) (he : E[g]? = some e) (hd : o.dst = some d) (hu : ∀ (j : Nat) (o : Oper), L[j]? = some o → o.dst = some d → j = g) {i : Nat} (hgi : g < i) :
    atD (WSof L E) (lex i) 0 sl0 d = ⟨e.path, e.ap⟩ := by
 have h1 : atD (WSof L E) (lex i) 0 sl0 d = atD (WSof L E) (lex (g + 1)) 0 sl0 d := atD_congr _ _ _ _ _ _ _ (fun j w hj hs => by
  obtain ⟨o', e', h1, h2, rfl⟩ := WSof_inv hj
  have := hu j o' h1 (slW_some.1 hs)
  subst this
  simp [lex, hgi]) rfl
 rw [h1, lex_succ (WSof_at ho he)]
 unfold slW
 rw [hd]; simp
def Conf (L : List Oper) (E : List TE) (j i : Nat) : Prop :=
 ∃ oj ej oi ei, L[j]? = some oj ∧ E[j]? = some ej ∧ L[i]? = some oi ∧ E[i]? = some ei ∧
  ((∃ d, oj.dst = some d ∧ (d ∈ readsOf L oi ∨ oi.dst = some d)) ∨ ∃ h ∈ keysH ej.hw, h ∈ ei.ns ∨ h ∈ keysH ei.hw)
def SameO (L : List Oper) (a a' : Act) : Prop := ∀ s, (∀ o ∈ L, o.dst ≠ some s) → a'.tmps.getD s undef = a.tmps.getD s undef
theorem SameO.refl (L : List Oper) (a : Act) : SameO L a a := fun _ _ => rfl
theorem SameO.trans {L : List Oper} {a b c : Act} (h : SameO L a b) (k : SameO L b c) : SameO L a c := fun s hs => (k s hs).trans (h s hs)
theorem SameO.put {L : List Oper} {o : Oper} (ho : o ∈ L) (a : Act) (v : Value) (hd : ∀ d, o.dst = some d → d < a.tmps.size) : SameO L a (a.put o.dst v) := fun s hs => by
 cases hod : o.dst with
 | none => rfl
 | some d =>
  rw [getD_put a d v s (hd d hod), if_neg (fun e => hs o ho (by rw [hod, e]))]
section
variable {P : Program} {c : Cf} (hE : c.E.ok P = true) (hS : SpecsOK P c.gl c.F c.nz) {C : Ctx} (hg : GlobIs C c) {Q : Exit → Act → World → Prop} {L : List Oper} {E : List TE} {sl0 : Nat → PA} {hp0 : Nat → HObj}
include hE hS hg
theorem opAt_good (hgd : gdB L L = true) {i : Nat} {o : Oper} {e : TE} (ho : L[i]? = some o) (he : OpAt c L E sl0 hp0 i o e) :
    OpGood P C Q (gam E) L o (atD (WSof L E) (lex i) 0 sl0) (atD (WHof E) (lex i) 0 hp0) e ∧ (¬ pathOK (gam E) e.path → e.hw = []) := by
 obtain ⟨rs, hat, hpa, hd, hw⟩ := he.ex
 have hpp := hat.gd.path e.path (pathOf_in hat.gd hpa)
 rw [← hat.slf, ← hat.hpf]
 cases hw with
 | skip path ns hp =>
  exact ⟨fun r a β G sl' hp' _ _ _ hpath => (hp (hpp.2 hpath)).elim, fun _ => rfl⟩
 | way path vc ws ns W k hev hW hon hv hk hh =>
  refine ⟨fun r a β G sl' hp' h1 h2 h3 hpath => ?_, fun hnp => ?_⟩
  · have hpt := hpp.2 hpath
    have hvv := hv hpt
    have hpath : pathOK (gam E) path := hpath
    clear hv hh hpa he hpp
    induction hev generalizing W k with
    | pick x a0 b0 ap q1 q2 =>
     have hW0 : W = ⟨True, ap, [], 0⟩ := by
      cases k with
      | zero => simp at hW; exact hW.symm
      | succ k => simp at hW
     subst hW0
     refine opGood_pick hg.eq (c := c) q1 q2 (fun t j q hx hj hq => ?_) r a β G sl' hp' h1 h2 h3 hpath
     obtain ⟨p, pp⟩ := q
     obtain ⟨g1, ⟨og, eg, d, g2, g3, g4, g5, g6⟩, _⟩ := hat.gd.all j p pp hq
     have hone := gdB_spec hgd o (List.mem_of_getElem? ho)
     have hu : uniqB t j L 0 = true := by
      unfold gdOne at hone
      rw [Bool.and_eq_true] at hone
      have h2' := hone.2
      have hop : o.op = .pick (.tmp t) a0 b0 := by
       unfold pickOf at q1
       split at q1
       · rename_i heq
         simp only [Option.some.injEq, Prod.mk.injEq] at q1
         obtain ⟨e1, e2, e3⟩ := q1
         rw [heq, e1, e2, e3, hx]
       · cases q1
      rw [hop] at h2'
      dsimp only at h2'
      rw [hj] at h2'
      exact h2'
     obtain ⟨_, oj, hoj, hojd⟩ := idxOf_spec hj
     rw [Nat.sub_zero] at hoj
     rw [g2] at hoj; cases hoj
     refine ⟨eg.ap, ?_, g5, hat.gd.gam hq⟩
     rw [hat.slf, uniq_content g2 g3 hojd (fun j' o' h1 h2 => by have := uniqB_spec hu j' o' h1 h2; omega) g1, g4]
    | call f g caps l _ pre _ q0 q1 q2 q3 q4 q6 q5 =>
     exact opGood_call hS hg hat.fresh q1 q2 q3 q4 q6 q5 (hvv _ List.mem_cons_self) hW (fun hl => hon hl hpt) hk r a β G sl' hp' h1 h2 h3 hpath
    | op _ _ ap hw k' q0 q1 q4 q6 q5 =>
     have hW0 : W = ⟨True, ap, hw, k'⟩ := by
      cases k with
      | zero => simp at hW; exact hW.symm
      | succ k => simp at hW
     subst hW0
     exact opGood_op hE hg hat.fresh q4 q6 q5 hk hvv r a β G sl' hp' h1 h2 h3 hpath
    | split _ _ W0 p hev0 hp ih =>
     have fin : ∀ b : Bool, (b = true → p) → (b = false → ¬ p) → W = ⟨W.on, .blit b, W0.hw, W0.k⟩ → ∀ K : Act → World → Prop, (∀ v β' G', HInv C (hset hp' W.hw) β' G' → β.le β' → G.le G' → sat W.ap β' G' v → K (a.put o.dst v) G'.w) → o.wpIn (WF r) 0 P a G.w K Q := fun b hb1 hb2 hWb K hK => by
      have e1 : W.hw = W0.hw := by rw [hWb]
      have e2 : W.ap = .blit b := by rw [hWb]
      have e3 : W.k = W0.k := by rw [hWb]
      have hkey := ih W0 0 rfl (fun hl => (hl rfl).elim) (by rw [← e1, ← e3]; exact hk)
      refine hkey (by first | exact h2 | (rw [← e1]; exact h2) | exact hpp | skip) (by first | exact hpath | exact h2 | skip) hpt hvv K fun v β' G' i1 i2 i3 i4 => hK v β' G' (by rw [e1]; exact i1) i2 i3 ?_
      have i4 : sat W0.ap β' G' v := i4
      have := propOf_sat hp i4
      rw [e2]
      unfold sat
      cases b with
      | true => exact this.1 (hb1 rfl)
      | false => exact this.2 (hb2 rfl)
     have hon' := hon (by simp) hpt
     cases k with
     | zero => simp at hW; subst hW; exact fin true (fun _ => hon') (fun h => by cases h) rfl
     | succ k =>
      cases k with
      | zero => simp at hW; subst hW; exact fin false (fun h => by cases h) (fun _ => hon') rfl
      | succ k => simp at hW
  · cases hWh : W.hw with
    | nil => rfl
    | cons a r => exact (hnp (hpp.1 (hh (by rw [hWh]; simp)))).elim
theorem region_step {ops : Array Oper} (hops : ops.toList = L) (hgd : gdB L L = true) (hN : C.N = c.N) (hEL : E.length ≤ L.length) {r : Option Nat} {D : Nat → Bool} {i : Nat} (hall : ∀ o, L[i]? = some o → ∃ e, E[i]? = some e ∧ OpAt c L E sl0 hp0 i o e) (hdsts : ∀ j o, j < i → L[j]? = some o → dstOK o.dst c.N = true) {a : Act} {β : Asg} {G : GW}
    (hI : Holds C (gam E) ⟨atD (WSof L E) D 0 sl0, atD (WHof E) D 0 hp0⟩ β a G) (hi : i < L.length) (hDi : D i = false) (hcf : ∀ j, j ≠ i → Conf L E j i → (D j = true ↔ j < i)) {K : Act → World → Prop}
    (hK : ∀ a' β' G', Holds C (gam E) ⟨atD (WSof L E) (fun n => D n || n == i) 0 sl0, atD (WHof E) (fun n => D n || n == i) 0 hp0⟩ β' a' G' → β.le β' → G.le G' → SameO L a a' → K a' G'.w) : wpOpIn (WF r) 0 P ops Q i K a G.w := by
 obtain ⟨o, ho⟩ : ∃ o, L[i]? = some o := ⟨_, List.getElem?_eq_getElem hi⟩
 obtain ⟨e, he, hat⟩ := hall o ho
 obtain ⟨hgood, hnil⟩ := opAt_good hE hS hg (Q := Q) hgd ho hat
 obtain ⟨rs, hrs, hpa, hdst, hwent⟩ := hat.ex
 have hoi : ops[i]? = some o := by rw [← Array.getElem?_toList, hops]; exact ho
 have hconf : ∀ j oj ej, L[j]? = some oj → E[j]? = some ej → j ≠ i → ((∃ d, oj.dst = some d ∧ (d ∈ readsOf L o ∨ o.dst = some d)) ∨ ∃ h ∈ keysH ej.hw, h ∈ e.ns ∨ h ∈ keysH e.hw) → D j = lex i j := fun j oj ej h1 h2 hne h3 => by
  have := hcf j hne ⟨oj, ej, o, e, h1, h2, ho, he, h3⟩
  unfold lex
  by_cases hlt : j < i
  · simp [this.2 hlt, hlt]
  · have hf : D j = false := by
     cases hd : D j with
     | false => rfl
     | true => exact (hlt (this.1 hd)).elim
    simp [hf, hlt]
 have hlexi : lex i i = false := by simp [lex]
 have agS : ∀ s, s ∈ readsOf L o → atD (WSof L E) D 0 sl0 s = atD (WSof L E) (lex i) 0 sl0 s := fun s hs => atD_congr _ _ _ _ _ _ _ (fun j w hj hsome => by
  obtain ⟨oj, ej, h1, h2, rfl⟩ := WSof_inv hj
  rw [Nat.zero_add]
  by_cases hji : j = i
  · subst hji; rw [hDi, hlexi]
  · exact hconf j oj ej h1 h2 hji (.inl ⟨s, slW_some.1 hsome, .inl hs⟩)) rfl
 have agH : ∀ h, h ∈ e.ns ∨ h ∈ keysH e.hw → atD (WHof E) D 0 hp0 h = atD (WHof E) (lex i) 0 hp0 h := fun h hh => atD_congr _ _ _ _ _ _ _ (fun j w hj hsome => by
  obtain ⟨ej, h2, rfl⟩ := WHof_inv hj
  rw [Nat.zero_add]
  by_cases hji : j = i
  · subst hji; rw [hDi, hlexi]
  · have hjl : j < L.length := by
     rcases Nat.lt_or_ge j L.length with h | h
     · exact h
     · have := (List.getElem?_eq_some_iff.1 h2).1; omega
    exact hconf j _ ej (List.getElem?_eq_getElem hjl) h2 hji (.inr ⟨h, lookH_some.1 hsome, hh⟩)) rfl
 -- the new state
 have stS : ∀ s, atD (WSof L E) (fun n => D n || n == i) 0 sl0 s = (slW o e s).getD (atD (WSof L E) D 0 sl0 s) := fun s => by
  have := atD_add (WSof L E) D 0 sl0 i (slW o e) s (WSof_at ho he) (by rw [Nat.zero_add]; exact hDi) (fun j w' hj hij h1 h2 => by
   obtain ⟨oj, ej, g1, g2, rfl⟩ := WSof_inv hj
   rw [Nat.zero_add]
   have hne : j ≠ i := by omega
   rw [hconf j oj ej g1 g2 hne (.inl ⟨s, slW_some.1 h2, .inr (slW_some.1 h1)⟩)]
   simp [lex]; omega)
  rw [Nat.zero_add] at this
  exact this
 have stH : ∀ h, atD (WHof E) (fun n => D n || n == i) 0 hp0 h = hset (atD (WHof E) D 0 hp0) e.hw h := fun h => by
  have := atD_add (WHof E) D 0 hp0 i (hpW e) h (WHof_at he) (by rw [Nat.zero_add]; exact hDi) (fun j w' hj hij h1 h2 => by
   obtain ⟨ej, g2, rfl⟩ := WHof_inv hj
   rw [Nat.zero_add]
   have hne : j ≠ i := by omega
   have hjl : j < L.length := by
    rcases Nat.lt_or_ge j L.length with h | h
    · exact h
    · have := (List.getElem?_eq_some_iff.1 g2).1; omega
   rw [hconf j _ ej (List.getElem?_eq_getElem hjl) g2 hne (.inr ⟨h, lookH_some.1 h2, .inr (lookH_some.1 h1)⟩)]
   simp [lex]; omega)
  rw [Nat.zero_add] at this
  rw [this, hset_look]; rfl
 have hst : (St.hset (St.put ⟨atD (WSof L E) D 0 sl0, atD (WHof E) D 0 hp0⟩ o.dst ⟨e.path, e.ap⟩) e.hw) = ⟨atD (WSof L E) (fun n => D n || n == i) 0 sl0, atD (WHof E) (fun n => D n || n == i) 0 hp0⟩ := by
  unfold St.put St.hset
  dsimp only
  congr 1
  · funext s
    rw [stS s]
    unfold slW
    cases o.dst with
    | none => rfl
    | some d =>
     dsimp only
     by_cases h : s = d
     · rw [if_pos h, if_pos h]; rfl
     · rw [if_neg h, if_neg h]; rfl
  · funext h
    exact (stH h).symm
 have hdC : dstOK o.dst C.N = true := by rw [hN]; exact hdst
 have hgo : ∀ (v : Value) (β' : Asg) (G' : GW), HInv C (hset (atD (WHof E) D 0 hp0) e.hw) β' G' → β.le β' → G.le G' → satP (gam E) ⟨e.path, e.ap⟩ β' G' v → K (a.put o.dst v) G'.w := fun v β' G' h1 h2 h3 h4 =>
  hK _ β' G' (by rw [← hst]; exact hI.next o.dst v ⟨e.path, e.ap⟩ e.hw hdC h2 h3 h4 h1) h2 h3 (SameO.put (List.mem_of_getElem? ho) a v (fun d hd => by
   rw [hI.size]; rw [hd] at hdC; exact Nat.le_of_ble_eq_true hdC))
 -- is it wanted?
 have hwant : (Region.wanted o (yielded ops a.tmps) = true ∧ pathOK (gam E) e.path) ∨ (Region.wanted o (yielded ops a.tmps) = false ∧ ¬ pathOK (gam E) e.path) := by
  unfold pathOf at hpa
  split at hpa
  · rename_i hno
    simp only [Option.some.injEq] at hpa
    refine .inl ⟨by unfold Region.wanted; rw [hno], ?_⟩
    rw [← hpa]; intro x hx; cases hx
  · rename_i g w hgw
    split at hpa
    · rename_i p pp hl
      simp only [Option.some.injEq] at hpa
      obtain ⟨g1, ⟨og, eg, d, g2, g3, g4, g5, g6⟩, _⟩ := hrs.gd.all g p pp hl
      have hone := gdB_spec hgd o (List.mem_of_getElem? ho)
      have hu : uniqB d g L 0 = true := by
       unfold gdOne at hone
       rw [Bool.and_eq_true] at hone
       have h1' := hone.1
       rw [hgw] at h1'
       dsimp only at h1'
       rw [g2] at h1'
       dsimp only at h1'
       rw [g6] at h1'
       exact h1'
      have hdr : d ∈ readsOf L o := by
       unfold readsOf
       rw [hgw]
       dsimp only
       rw [g2]
       dsimp only
       rw [g6]
       exact List.mem_cons_self
      have hcont := uniq_content (sl0 := sl0) g2 g3 g6 (fun j' o' h1 h2 => by have := uniqB_spec hu j' o' h1 h2; omega) g1
      have hslot := hI.slots d
      have hsd : (atD (WSof L E) D 0 sl0 d) = ⟨pp, eg.ap⟩ := by rw [agS d hdr, hcont, g4]
      dsimp only at hslot
      rw [hsd] at hslot
      have hog : ops[g]? = some og := by rw [← Array.getElem?_toList, hops]; exact g2
      have hdg := hdsts g og g1 g2
      have hdlt : d < a.tmps.size := by
       rw [hI.size, hN]
       rw [g6] at hdg
       exact Nat.le_of_ble_eq_true hdg
      have hty : a.tmps[d]? = some (a.tmps.getD d undef) := by
       rw [Array.getD_eq_getD_getElem?, Array.getElem?_eq_getElem hdlt]; rfl
      have hgam := hrs.gd.gam hl
      by_cases hpok : pathOK (gam E) pp
      · obtain ⟨bb, hbb, hiff⟩ := prop_val (propOf_sat g5 (hslot.1 hpok))
        have hγ : gam E g = bb := by
         have : gam E g = true ↔ bb = true := by rw [hgam, hiff]
         cases h1 : gam E g <;> cases h2 : bb <;> simp_all
        have hyl : yielded ops a.tmps g = some bb := by
         unfold yielded
         rw [hog]
         show (match (og.dst).bind (a.tmps[·]?) with | some (.bool b) => some b | _ => none) = some bb
         rw [g6]
         show (match a.tmps[d]? with | some (.bool b) => some b | _ => none) = some bb
         rw [hty, hbb]
        unfold Region.wanted
        rw [hgw]
        dsimp only
        rw [hyl, ← hpa]
        by_cases hbw : bb = w
        · refine .inl ⟨by simp [hbw], fun x hx => ?_⟩
          rcases List.mem_cons.1 hx with rfl | hx
          · exact hγ.trans hbw
          · exact hpok x hx
        · refine .inr ⟨by simp [hbw], fun h => hbw ?_⟩
          have := h (g, w) List.mem_cons_self
          exact hγ.symm.trans this
      · have hv := hslot.2 hpok
        have hyl : yielded ops a.tmps g = none := by
         unfold yielded
         rw [hog]
         show (match (og.dst).bind (a.tmps[·]?) with | some (.bool b) => some b | _ => none) = none
         rw [g6]
         show (match a.tmps[d]? with | some (.bool b) => some b | _ => none) = none
         rw [hty, hv]; rfl
        unfold Region.wanted
        rw [hgw]
        dsimp only
        rw [hyl, ← hpa]
        exact .inr ⟨by simp, fun h => hpok (fun x hx => h x (List.mem_cons_of_mem _ hx))⟩
    · cases hpa
 unfold wpOpIn
 rw [hoi]
 dsimp only
 rcases hwant with ⟨hw, hpok⟩ | ⟨hw, hpok⟩
 · rw [if_pos hw]
   exact hgood r a β G _ _ agS agH hI hpok K fun v β' G' h1 h2 h3 h4 => hgo v β' G' h1 h2 h3 ⟨fun _ => h4, fun h => (h hpok).elim⟩
 · rw [hw]
   simp only [Bool.false_eq_true, if_false]
   have hn := hnil hpok
   exact ⟨fun _ _ => trivial, hgo undef β G (by rw [hn]; exact hI.inv) (Asg.le_refl β) G.le_refl ⟨fun h => (hpok h).elim, fun _ => rfl⟩⟩
end
end Go.Gv

/- A region: in the order of the text, and in any order that its edges allow. -/
namespace Go.Gv
open Go
section
variable {P : Program} {c : Cf} (hE : c.E.ok P = true) (hS : SpecsOK P c.gl c.F c.nz) {C : Ctx} (hg : GlobIs C c) {Q : Exit → Act → World → Prop} {L : List Oper} {E : List TE} {sl0 : Nat → PA} {hp0 : Nat → HObj}
include hE hS hg
theorem region_text {ops : Array Oper} (hops : ops.toList = L) (hgd : gdB L L = true) (hN : C.N = c.N) {r : Option Nat} (hEL : E.length = L.length) (hall : ∀ j o, L[j]? = some o → ∃ e, E[j]? = some e ∧ OpAt c L E sl0 hp0 j o e)
    {a0 : Act} {β0 : Asg} {G0 : GW} (hQ : ∀ a' β' G', Holds C (gam E) ⟨atD (WSof L E) (lex L.length) 0 sl0, atD (WHof E) (lex L.length) 0 hp0⟩ β' a' G' → β0.le β' → G0.le G' → SameO L a0 a' → Q .normal a' G'.w) : ∀ (k i : Nat), i + k = L.length → ∀ (a : Act) (β : Asg) (G : GW), β0.le β → G0.le G → SameO L a0 a →
    Holds C (gam E) ⟨atD (WSof L E) (lex i) 0 sl0, atD (WHof E) (lex i) 0 hp0⟩ β a G → wpOpsIn (WF r) 0 P ops Q (List.range' i k) a G.w
 | 0, i, hik, a, β, G, hb, hgl, hsm, hI => by
  have : i = L.length := by omega
  subst this
  exact hQ a β G hI hb hgl hsm
 | k + 1, i, hik, a, β, G, hb, hgl, hsm, hI => by
  rw [List.range'_succ, wpOpsIn_cons]
  refine region_step hE hS hg hops hgd hN (Nat.le_of_eq hEL) (hall i) (fun j o _ h => by obtain ⟨_, _, hatg⟩ := hall j o h; obtain ⟨_, _, _, hdg, _⟩ := hatg.ex; exact hdg) hI (by omega) (by simp [lex]) (fun j hj _ => by simp [lex]) (fun a' β' G' h1 h2 h3 h4 => ?_)
  have hl : (fun n => lex i n || n == i) = lex (i + 1) := by
   funext n
   simp only [lex]
   by_cases h1 : n < i
   · simp [h1]; omega
   · by_cases h2 : n = i
     · simp [h2]
     · have : ¬ n < i + 1 := by omega
       simp [h1, h2, this]
  rw [hl] at h1
  exact region_text hops hgd hN hEL hall hQ k (i + 1) (by omega) a' β' G' (Asg.le_trans hb h2) (GW.le_trans hgl h3) (hsm.trans h4) h1
def Rdy (L : List Oper) (D : Nat → Bool) (i : Nat) : Prop := ∀ o, L[i]? = some o → ∀ e ∈ o.after.toList, bindsAny e = true → D e.on = true
def Clo (L : List Oper) (D : Nat → Bool) : Prop := ∀ i, D i = true → Rdy L D i
def Anc (L : List Oper) (i j : Nat) : Prop := ∀ D, Clo L D → Rdy L D i → D j = true
omit hE hS hg in
theorem bindsAny_eq (e : Edge) : bindsAny e = Region.binds .any e := by
 unfold bindsAny Region.binds
 cases e.ground <;> rfl
theorem region_any {ops : Array Oper} (hops : ops.toList = L) (hgd : gdB L L = true) (hN : C.N = c.N) {r : Option Nat} (hEL : E.length = L.length) (hall : ∀ j o, L[j]? = some o → ∃ e, E[j]? = some e ∧ OpAt c L E sl0 hp0 j o e)
    (hback : ∀ i o, L[i]? = some o → ∀ e ∈ o.after.toList, bindsAny e = true → e.on < i) (hord : ∀ j i, j < i → (Conf L E j i ∨ Conf L E i j) → Anc L i j)
    {a0 : Act} {β0 : Asg} {G0 : GW} (hQ : ∀ a' β' G', Holds C (gam E) ⟨atD (WSof L E) (lex L.length) 0 sl0, atD (WHof E) (lex L.length) 0 hp0⟩ β' a' G' → β0.le β' → G0.le G' → SameO L a0 a' → Q .normal a' G'.w) : ∀ (fuel : Nat) (listed : Array Bool), listed.size = L.length →
    ((List.range L.length).filter (fun i => !listed.getD i false)).length = fuel → Clo L (fun i => listed.getD i false) → ∀ (a : Act) (β : Asg) (G : GW), β0.le β → G0.le G → SameO L a0 a →
    Holds C (gam E) ⟨atD (WSof L E) (fun i => listed.getD i false) 0 sl0, atD (WHof E) (fun i => listed.getD i false) 0 hp0⟩ β a G → wpAnyIn (WF r) 0 P .any ops Q fuel listed a G.w := by
 have hopsz : ops.size = L.length := by rw [← hops]; simp
 have hat : ∀ i : Nat, ops[i]? = L[i]? := fun i => by rw [← Array.getElem?_toList, hops]
 have hgd2 : ∀ (listed : Array Bool) (i : Nat), listed.size = L.length → i < L.length → listed.getD i true = listed.getD i false := fun listed i h1 h2 => by
  have : i < listed.size := by omega
  simp [this]
 have hready : ∀ (listed : Array Bool), listed.size = L.length → ∀ i, i ∈ Region.ready .any ops listed ↔ (i < L.length ∧ listed.getD i false = false ∧ Rdy L (fun i => listed.getD i false) i) := fun listed hsz i => by
  rw [mem_ready]
  constructor
  · rintro ⟨h1, o, h2, h3⟩
    rw [hat] at h2
    have hlt := (List.getElem?_eq_some_iff.1 h2).1
    refine ⟨hlt, by rw [← hgd2 listed i hsz hlt]; exact h1, fun o' h2' e he hb => ?_⟩
    rw [h2] at h2'; cases h2'
    exact h3 e (by simpa using he) (by rw [← bindsAny_eq]; exact hb)
  · rintro ⟨h1, h2, h3⟩
    refine ⟨by rw [hgd2 listed i hsz h1]; exact h2, L[i], by rw [hat]; exact List.getElem?_eq_getElem h1, fun e he hb => h3 _ (List.getElem?_eq_getElem h1) e (by simpa using he) (by rw [bindsAny_eq]; exact hb)⟩
 -- nothing is ready: all is done
 have hdone : ∀ (listed : Array Bool), listed.size = L.length → Region.ready .any ops listed = [] → ∀ i, i < L.length → listed.getD i false = true := fun listed hsz hnil i => by
  induction i using Nat.strongRecOn with
  | ind i ih =>
   intro hi
   cases hl : listed.getD i false with
   | true => rfl
   | false =>
    exfalso
    have : i ∈ Region.ready .any ops listed := (hready listed hsz i).2 ⟨hi, hl, fun o ho e he hb => by
     have hlt := hback i o ho e he hb
     exact ih e.on hlt (by omega)⟩
    rw [hnil] at this; cases this
 have hfin : ∀ (listed : Array Bool), listed.size = L.length → (∀ i, i < L.length → listed.getD i false = true) → ∀ (a : Act) (β : Asg) (G : GW), β0.le β → G0.le G → SameO L a0 a →
     Holds C (gam E) ⟨atD (WSof L E) (fun i => listed.getD i false) 0 sl0, atD (WHof E) (fun i => listed.getD i false) 0 hp0⟩ β a G → Q .normal a G.w := fun listed hsz hall1 a β G hb hgl hsm hI => by
  have hlx : (fun i => listed.getD i false) = lex L.length := by
   funext i
   by_cases h : i < L.length
   · rw [hall1 i h]; simp [lex, h]
   · have : ¬ i < listed.size := by omega
     simp [lex, h, this]
  rw [hlx] at hI
  exact hQ a β G hI hb hgl hsm
 intro fuel
 induction fuel with
 | zero =>
  intro listed hsz hcount hclo a β G hb hgl hsm hI
  have hall1 : ∀ i, i < L.length → listed.getD i false = true := fun i hi => by
   cases hl : listed.getD i false with
   | true => rfl
   | false =>
    exfalso
    have : i ∈ (List.range L.length).filter (fun i => !listed.getD i false) := by
     rw [List.mem_filter]
     exact ⟨List.mem_range.2 hi, by rw [hl]; rfl⟩
    rw [List.length_eq_zero_iff.1 hcount] at this; cases this
  refine ⟨?_, hfin listed hsz hall1 a β G hb hgl hsm hI⟩
  cases hr : Region.ready .any ops listed with
  | nil => rfl
  | cons i r =>
   exfalso
   have : i ∈ Region.ready .any ops listed := by rw [hr]; exact List.mem_cons_self
   obtain ⟨h1, h2, _⟩ := (hready listed hsz i).1 this
   rw [hall1 i h1] at h2; cases h2
 | succ fuel ih =>
  intro listed hsz hcount hclo a β G hb hgl hsm hI
  refine ⟨fun hnil => hfin listed hsz (hdone listed hsz hnil) a β G hb hgl hsm hI, fun i hi => ?_⟩
  obtain ⟨h1, h2, h3⟩ := (hready listed hsz i).1 hi
  refine region_step hE hS hg hops hgd hN (Nat.le_of_eq hEL) (hall i) (fun j o _ h => by obtain ⟨_, _, hatg⟩ := hall j o h; obtain ⟨_, _, _, hdg, _⟩ := hatg.ex; exact hdg) hI h1 h2 (fun j hji hc => ?_) (fun a' β' G' g1 g2 g3 g4 => ?_)
  · constructor
    · intro hj
      rcases Nat.lt_or_ge j i with hlt | hge
      · exact hlt
      · exfalso
        have hlt : i < j := by omega
        have := hord i j hlt (.inr hc) _ hclo (hclo j hj)
        have h2' : listed.getD i false = true := this
        rw [h2] at h2'; cases h2'
    · intro hlt
      exact hord j i hlt (.inl hc) _ hclo h3
  · have hset : (fun n => listed.getD n false || n == i) = (fun n => (listed.setIfInBounds i true).getD n false) := by
     funext n
     by_cases hn : n = i
     · subst hn
       have : n < listed.size := by omega
       simp [this]
     · have hne : i ≠ n := fun e => hn e.symm
       simp [Array.getElem?_setIfInBounds_ne hne, hn]
    rw [hset] at g1
    refine ih (listed.setIfInBounds i true) (by simpa using hsz) ?_ ?_ a' β' G' (Asg.le_trans hb g2) (GW.le_trans hgl g3) (hsm.trans g4) g1
    · have hse : ∀ n, (listed.setIfInBounds i true).getD n false = (listed.getD n false || n == i) := fun n => (congrFun hset n).symm
      have hfe : (List.range L.length).filter (fun n => !(listed.setIfInBounds i true).getD n false) = (List.range L.length).filter (fun n => !(listed.getD n false || n == i)) := List.filter_congr (fun n _ => by rw [hse])
      rw [hfe]
      exact count_one (List.range L.length) (fun n => listed.getD n false) i (List.nodup_range) (List.mem_range.2 h1) h2 hcount
    · show Clo L (fun n => (listed.setIfInBounds i true).getD n false)
      rw [← hset]
      intro k hk o ho e he hbn
      simp only [Bool.or_eq_true, beq_iff_eq] at hk ⊢
      rcases hk with hk | rfl
      · exact .inl (hclo k hk o ho e he hbn)
      · exact .inl (h3 o ho e he hbn)
where
 count_one : ∀ (l : List Nat) (D : Nat → Bool) (i : Nat), l.Nodup → i ∈ l → D i = false → ∀ {n : Nat}, (l.filter (fun k => !D k)).length = n + 1 → (l.filter (fun k => !(D k || k == i))).length = n
  | [], _, _, _, h, _, _, _ => by cases h
  | a :: l, D, i, hn, hm, hd, n, hc => by
   rw [List.nodup_cons] at hn
   by_cases ha : a = i
   · subst ha
     have h1 : l.filter (fun k => !(D k || k == a)) = l.filter (fun k => !D k) := by
      apply List.filter_congr
      intro k hk
      have : (k == a) = false := by simp; exact fun e => hn.1 (e ▸ hk)
      rw [this, Bool.or_false]
     rw [List.filter_cons] at hc ⊢
     simp only [hd, Bool.not_false, if_true, List.length_cons] at hc
     simp only [beq_self_eq_true, Bool.or_true, Bool.not_true, Bool.false_eq_true, if_false]
     rw [h1]; omega
   · have hm' : i ∈ l := (List.mem_cons.1 hm).resolve_left (fun e => ha e.symm)
     have hai : (a == i) = false := by simp [ha]
     rw [List.filter_cons] at hc ⊢
     rw [hai, Bool.or_false]
     cases hda : D a with
     | true =>
      rw [hda] at hc
      simp only [Bool.not_true, Bool.false_eq_true, if_false] at hc ⊢
      exact count_one l D i hn.2 hm' hd hc
     | false =>
      rw [hda] at hc
      simp only [Bool.not_false, if_true, List.length_cons] at hc ⊢
      have hpos : ∃ m, n = m + 1 := by
       cases n with
       | zero =>
        exfalso
        have h0 : (l.filter (fun k => !D k)).length = 0 := by omega
        have : i ∈ l.filter (fun k => !D k) := List.mem_filter.2 ⟨hm', by rw [hd]; rfl⟩
        rw [List.length_eq_zero_iff.1 h0] at this; cases this
       | succ m => exact ⟨m, rfl⟩
      obtain ⟨m, rfl⟩ := hpos
      rw [count_one l D i hn.2 hm' hd (n := m) (by omega)]
end
end Go.Gv
