/- A verified generator of conditions over the code of the model. Part 4. -/
import Derived.Test.YtjlighbppoffhaaDoorGc
import Derived.RangeFuncRecord
import Derived.OrdersIn
import Derived.TacticsIn
set_option linter.all false

/- Shapes: from the abstract value to the datum, and back under other names. -/
namespace Go.Gv
open Go
def objsA (nm : Nat → Nat) : (s : Sh) → SDat s → Nat → List HObj
 | .d _, _, _ => []
 | .row t, xs, _ => [.row t xs]
 | .take t, xs, _ => [.row t xs]
 | .spare t, _, _ => [.spare t]
 | .map k v, m, _ => [.map k v m]
 | .ob κ, x, _ => [.ob κ x]
 | .box cs, x, n => .box (intoA nm cs x (n + 1)) :: objsA nm cs x (n + 1)
 | .clos _ cs, x, n => objsA nm cs x n
 | .nilp, _, _ => []
 | .nils, _, _ => []
 | .nil, _, _ => []
 | .cons a b, x, n => objsA nm a x.1 n ++ objsA nm b x.2 (n + nn a)
theorem objsA_len (nm : Nat → Nat) : ∀ (s : Sh) (x : SDat s) (n : Nat), (objsA nm s x n).length = nn s
 | .d _, _, _ => rfl
 | .row _, _, _ => rfl
 | .take _, _, _ => rfl
 | .spare _, _, _ => rfl
 | .map _ _, _, _ => rfl
 | .ob _, _, _ => rfl
 | .box cs, x, n => by simp [objsA, nn, objsA_len nm cs x (n + 1)]
 | .clos _ cs, x, n => objsA_len nm cs x n
 | .nilp, _, _ => rfl
 | .nils, _, _ => rfl
 | .nil, _, _ => rfl
 | .cons a b, x, n => by simp [objsA, nn, objsA_len nm a x.1 n, objsA_len nm b x.2 (n + nn a)]
def zipN (nm : Nat → Nat) : List HObj → Nat → List (Nat × HObj) → List (Nat × HObj)
 | [], _, r => r
 | o :: l, n, r => (nm n, o) :: zipN nm l (n + 1) r
theorem zipN_append (nm : Nat → Nat) : ∀ (a b : List HObj) (n : Nat) (r : List (Nat × HObj)), zipN nm (a ++ b) n r = zipN nm a n (zipN nm b (n + a.length) r)
 | [], b, n, r => by simp [zipN]
 | o :: a, b, n, r => by
  simp only [List.cons_append, zipN, List.length_cons]
  rw [zipN_append nm a b (n + 1) r, show n + 1 + a.length = n + (a.length + 1) by omega]
theorem intoH_eq (nm : Nat → Nat) : ∀ (s : Sh) (x : SDat s) (n : Nat) (r : List (Nat × HObj)), intoH nm s x n r = zipN nm (objsA nm s x n) n r
 | .d _, _, _, _ => rfl
 | .row _, _, _, _ => rfl
 | .take _, _, _, _ => rfl
 | .spare _, _, _, _ => rfl
 | .map _ _, _, _, _ => rfl
 | .ob _, _, _, _ => rfl
 | .box cs, x, n, r => by simp only [intoH, objsA, zipN, intoH_eq nm cs x (n + 1) r]
 | .clos _ cs, x, n, r => intoH_eq nm cs x n r
 | .nilp, _, _, _ => rfl
 | .nils, _, _, _ => rfl
 | .nil, _, _, _ => rfl
 | .cons a b, x, n, r => by
  simp only [intoH, objsA, zipN_append, objsA_len]
  rw [intoH_eq nm b x.2 (n + nn a) r, intoH_eq nm a x.1 n]
structure ObjOK (β1 : Asg) (G : GW) (hpx : Nat → HObj) (v : Value) (h : Nat) (o : HObj) : Prop where
 sat : satH o v β1 G
 fc : ∀ b i, fpc o v b i → fpc (hpx h) v b i
 fo : ∀ b, fpo o v b → fpo (hpx h) v b
 ne : o ≠ HObj.none
theorem nil_slice_sat {t : Ty} {β : Asg} {G : GW} : satH (.row t []) (.slice none 0 0) β G :=
 ⟨none, 0, rfl, Nat.le_refl _, Nat.zero_le _, fun _ => rfl, fun _ h => by cases h⟩
theorem nil_spare_sat {t : Ty} {β : Asg} {G : GW} : satH (.spare t) (.slice none 0 0) β G := ⟨none, 0, 0, rfl, fun _ h => by cases h⟩
theorem nil_rep {t : Ty} {G : GW} : RepV (.sl t) [] G (.slice none 0 0) := .of_one rfl ⟨none, 0, rfl, Nat.le_refl _, Nat.zero_le _, fun _ => rfl, fun _ h => by cases h⟩
theorem castOb_eq {κ κ' : Kind} {x : ObDat κ} {y : ObDat κ'} (h : castOb κ κ' x = some y) : κ = κ' ∧ HEq x y := by
 unfold castOb at h
 split at h
 · rename_i e; subst e; simp only [Option.some.injEq] at h; subst h; exact ⟨rfl, HEq.rfl⟩
 · cases h
theorem cast_eq {u t : Ty} {x : Dat u} {y : Dat t} (h : castDat u t x = some y) : u = t ∧ HEq x y := by
 unfold castDat at h
 split at h
 · rename_i e; subst e; simp only [Option.some.injEq] at h; subst h; exact ⟨rfl, HEq.rfl⟩
 · cases h
structure Carried (hpx : Nat → HObj) (βx β : Asg) (G : GW) (s : Sh) (X : AP) (x : SDat s) (ns : List Nat) : Prop where
 len : ns.length = nn s
 go : ∀ (nm : Nat → Nat) (n : Nat) (β1 : Asg), (∀ (k h : Nat), ns[k]? = some h → β1 (nm (n + k)) = βx h) →
  (∀ v, sat X β G v → sat (intoA nm s x n) β1 G v) ∧ (∀ l : List Value, satL X β G l → satL (intoA nm s x n) β1 G l) ∧ (∀ l : List Value, satT X β G l → satT (intoA nm s x n) β1 G l) ∧
  ∀ (k h : Nat) (o : HObj), ns[k]? = some h → (objsA nm s x n)[k]? = some o → ∃ v, βx h = some v ∧ ObjOK β1 G hpx v h o
theorem satL_not {X : AP} {β : Asg} {G : GW} {l : List Value} (h : satL X β G l) : X = .nil ∨ ∃ a b, X = .cons a b := by
 cases X <;> first | exact .inl rfl | exact .inr ⟨_, _, rfl⟩ | (unfold satL at h; exact h.elim)
theorem satT_not {X : AP} {β : Asg} {G : GW} {l : List Value} (h : satT X β G l) : X = .nil ∨ ∃ a b, X = .cons a b := by
 cases X <;> first | exact .inl rfl | exact .inr ⟨_, _, rfl⟩ | (unfold satT at h; exact h.elim)
theorem fromA_trans {hp hpx : Nat → HObj} {β βx : Asg} {G : GW} (H : HeapSat hp β G) (hold : ∀ h, hp h ≠ .none → βx h = β h ∧ hpx h = hp h) : ∀ (s : Sh) (X : AP) (nx : Nat) (x : SDat s) (ns : List Nat) (ex : List (Nat × HObj)) (nx' : Nat),
    fromA hp s X nx = some ⟨x, ns, ex, nx'⟩ → (∀ h o, (h, o) ∈ ex → βx h = some (.slice none 0 0) ∧ hpx h = o) → Carried hpx βx β G s X x ns
 | .d t, X, nx, x, ns, ex, nx', h, hex => by
  unfold fromA at h
  split at h
  · rename_i y hy
    simp only [Option.some.injEq, Fr.mk.injEq] at h; obtain ⟨rfl, rfl, rfl, rfl⟩ := h
    refine ⟨rfl, fun nm n β1 hag => ⟨fun v hv => ?_, fun l hl => ?_, fun l hl => ?_, fun k h o hk _ => by simp at hk⟩⟩
    · unfold intoA sat; exact toDat_rep H hy hv
    · rcases satL_not hl with rfl | ⟨a, b, rfl⟩ <;> (unfold toDat toDat1 at hy; cases t <;> cases hy)
    · rcases satT_not hl with rfl | ⟨a, b, rfl⟩ <;> (unfold toDat toDat1 at hy; cases t <;> cases hy)
  · cases h
 | .row t, X, nx, x, ns, ex, nx', h, hex => by
  unfold fromA at h
  split at h
  · rename_i hn
    split at h
    · rename_i u xs hh
      split at h
      · rename_i y hy
        simp only [Option.some.injEq, Fr.mk.injEq] at h; obtain ⟨rfl, rfl, rfl, rfl⟩ := h
        obtain ⟨e1, e2⟩ := cast_eq hy
        cases e1; cases e2
        have ho := hold hn (by rw [hh]; simp)
        refine ⟨rfl, fun nm n β1 hag => ⟨fun v hv => ?_, fun l hl => (by rcases satL_not hl with e | ⟨a, b, e⟩ <;> cases e), fun l hl => (by rcases satT_not hl with e | ⟨a, b, e⟩ <;> cases e), fun k h o hk hob => ?_⟩⟩
        · unfold intoA sat
          unfold sat at hv
          have := hag 0 hn rfl
          rw [Nat.add_zero] at this
          rw [this, ho.1]; exact hv
        · cases k with
          | zero =>
           cases hk; cases hob
           obtain ⟨v, hv, hs⟩ := H hn (by rw [hh]; simp)
           rw [hh] at hs
           exact ⟨v, by rw [ho.1]; exact hv, hs, fun b i hf => by rw [ho.2, hh]; exact hf, fun b hf => by rw [ho.2, hh]; exact hf, by simp⟩
          | succ k => simp at hk
      · cases h
    · cases h
  · simp only [Option.some.injEq, Fr.mk.injEq] at h; obtain ⟨rfl, rfl, rfl, rfl⟩ := h
    obtain ⟨hb, hx⟩ := hex nx (.row t []) (by simp)
    refine ⟨rfl, fun nm n β1 hag => ⟨fun v hv => ?_, fun l hl => (by rcases satL_not hl with e | ⟨a, b, e⟩ <;> cases e), fun l hl => (by rcases satT_not hl with e | ⟨a, b, e⟩ <;> cases e), fun k h o hk hob => ?_⟩⟩
    · unfold intoA sat
      unfold sat at hv; subst hv
      have := hag 0 nx rfl
      rw [Nat.add_zero] at this
      exact ⟨by rw [this]; exact hb, rfl⟩
    · cases k with
      | zero =>
       cases hk; cases hob
       exact ⟨_, hb, nil_slice_sat, fun b i hf => by rw [hx]; exact hf, fun b hf => by rw [hx]; exact hf, by simp⟩
      | succ k => simp at hk
  · cases h
 | .take t, X, nx, x, ns, ex, nx', h, hex => by
  unfold fromA at h
  split at h
  · rename_i hn
    split at h
    · rename_i u xs hh
      split at h
      · rename_i y hy
        simp only [Option.some.injEq, Fr.mk.injEq] at h; obtain ⟨rfl, rfl, rfl, rfl⟩ := h
        obtain ⟨e1, e2⟩ := cast_eq hy
        cases e1; cases e2
        have ho := hold hn (by rw [hh]; simp)
        refine ⟨rfl, fun nm n β1 hag => ⟨fun v hv => ?_, fun l hl => (by rcases satL_not hl with e | ⟨a, b, e⟩ <;> cases e), fun l hl => (by rcases satT_not hl with e | ⟨a, b, e⟩ <;> cases e), fun k h o hk hob => ?_⟩⟩
        · unfold intoA sat
          unfold sat at hv
          have := hag 0 hn rfl
          rw [Nat.add_zero] at this
          rw [this, ho.1]; exact hv
        · cases k with
          | zero =>
           cases hk; cases hob
           obtain ⟨v, hv, hs⟩ := H hn (by rw [hh]; simp)
           rw [hh] at hs
           exact ⟨v, by rw [ho.1]; exact hv, hs, fun b i hf => by rw [ho.2, hh]; exact hf, fun b hf => by rw [ho.2, hh]; exact hf, by simp⟩
          | succ k => simp at hk
      · cases h
    · cases h
  · simp only [Option.some.injEq, Fr.mk.injEq] at h; obtain ⟨rfl, rfl, rfl, rfl⟩ := h
    obtain ⟨hb, hx⟩ := hex nx (.row t []) (by simp)
    refine ⟨rfl, fun nm n β1 hag => ⟨fun v hv => ?_, fun l hl => (by rcases satL_not hl with e | ⟨a, b, e⟩ <;> cases e), fun l hl => (by rcases satT_not hl with e | ⟨a, b, e⟩ <;> cases e), fun k h o hk hob => ?_⟩⟩
    · unfold intoA sat
      unfold sat at hv; subst hv
      have := hag 0 nx rfl
      rw [Nat.add_zero] at this
      exact ⟨by rw [this]; exact hb, rfl⟩
    · cases k with
      | zero =>
       cases hk; cases hob
       exact ⟨_, hb, nil_slice_sat, fun b i hf => by rw [hx]; exact hf, fun b hf => by rw [hx]; exact hf, by simp⟩
      | succ k => simp at hk
  · cases h
 | .spare t, X, nx, x, ns, ex, nx', h, hex => by
  unfold fromA at h
  split at h
  · rename_i hn u xs
    split at h
    · rename_i w hh
      split at h
      · rename_i y hy hd
        have hd := of_decide_eq_true hd; subst hd
        simp only [Option.some.injEq, Fr.mk.injEq] at h; obtain ⟨rfl, rfl, rfl, rfl⟩ := h
        obtain ⟨e1, e2⟩ := cast_eq hy
        cases e1; cases e2
        have ho := hold hn (by rw [hh]; simp)
        refine ⟨rfl, fun nm n β1 hag => ⟨fun v hv => ?_, fun l hl => (by rcases satL_not hl with e | ⟨a, b, e⟩ <;> cases e), fun l hl => (by rcases satT_not hl with e | ⟨a, b, e⟩ <;> cases e), fun k h o hk hob => ?_⟩⟩
        · unfold intoA sat
          unfold sat at hv
          have := hag 0 hn rfl
          rw [Nat.add_zero] at this
          rw [this, ho.1]; exact hv
        · cases k with
          | zero =>
           cases hk; cases hob
           obtain ⟨v, hv, hs⟩ := H hn (by rw [hh]; simp)
           rw [hh] at hs
           exact ⟨v, by rw [ho.1]; exact hv, hs, fun b i hf => by rw [ho.2, hh]; exact hf, fun b hf => by rw [ho.2, hh]; exact hf, by simp⟩
          | succ k => simp at hk
      · cases h
    · cases h
  · simp only [Option.some.injEq, Fr.mk.injEq] at h; obtain ⟨rfl, rfl, rfl, rfl⟩ := h
    obtain ⟨hb, hx⟩ := hex nx (.spare t) (by simp)
    refine ⟨rfl, fun nm n β1 hag => ⟨fun v hv => ?_, fun l hl => (by rcases satL_not hl with e | ⟨a, b, e⟩ <;> cases e), fun l hl => (by rcases satT_not hl with e | ⟨a, b, e⟩ <;> cases e), fun k h o hk hob => ?_⟩⟩
    · unfold intoA sat
      unfold sat at hv; subst hv
      have := hag 0 nx rfl
      rw [Nat.add_zero] at this
      exact ⟨by rw [this]; exact hb, nil_rep⟩
    · cases k with
      | zero =>
       cases hk; cases hob
       exact ⟨_, hb, nil_spare_sat, fun b i hf => by rw [hx]; exact hf, fun b hf => by rw [hx]; exact hf, by simp⟩
      | succ k => simp at hk
  · cases h
 | .map a b, X, nx, x, ns, ex, nx', h, hex => by
  unfold fromA at h
  split at h
  · rename_i hn
    split at h
    · rename_i u xs m hh
      split at h
      · rename_i y hy
        simp only [Option.some.injEq, Fr.mk.injEq] at h; obtain ⟨rfl, rfl, rfl, rfl⟩ := h
        obtain ⟨e1, e2⟩ := cast_eq hy
        cases e1; cases e2
        have ho := hold hn (by rw [hh]; simp)
        refine ⟨rfl, fun nm n β1 hag => ⟨fun v hv => ?_, fun l hl => (by rcases satL_not hl with e | ⟨a, b, e⟩ <;> cases e), fun l hl => (by rcases satT_not hl with e | ⟨a, b, e⟩ <;> cases e), fun k h o hk hob => ?_⟩⟩
        · unfold intoA sat
          unfold sat at hv
          have := hag 0 hn rfl
          rw [Nat.add_zero] at this
          rw [this, ho.1]; exact hv
        · cases k with
          | zero =>
           cases hk; cases hob
           obtain ⟨v, hv, hs⟩ := H hn (by rw [hh]; simp)
           rw [hh] at hs
           exact ⟨v, by rw [ho.1]; exact hv, hs, fun b i hf => by rw [ho.2, hh]; exact hf, fun b hf => by rw [ho.2, hh]; exact hf, by simp⟩
          | succ k => simp at hk
      · cases h
    · cases h
  · cases h
 | .ob κ, X, nx, x, ns, ex, nx', h, hex => by
  unfold fromA at h
  split at h
  · rename_i hn
    split at h
    · rename_i u xs hh
      split at h
      · rename_i y hy
        simp only [Option.some.injEq, Fr.mk.injEq] at h; obtain ⟨rfl, rfl, rfl, rfl⟩ := h
        obtain ⟨e1, e2⟩ := castOb_eq hy
        subst e1; cases e2
        have ho := hold hn (by rw [hh]; simp)
        refine ⟨rfl, fun nm n β1 hag => ⟨fun v hv => ?_, fun l hl => (by rcases satL_not hl with e | ⟨a, b, e⟩ <;> cases e), fun l hl => (by rcases satT_not hl with e | ⟨a, b, e⟩ <;> cases e), fun k h o hk hob => ?_⟩⟩
        · unfold intoA sat
          unfold sat at hv
          have := hag 0 hn rfl
          rw [Nat.add_zero] at this
          rw [this, ho.1]; exact hv
        · cases k with
          | zero =>
           cases hk; cases hob
           obtain ⟨v, hv, hs⟩ := H hn (by rw [hh]; simp)
           rw [hh] at hs
           exact ⟨v, by rw [ho.1]; exact hv, hs, fun b i hf => by rw [ho.2, hh]; exact hf, fun b hf => by rw [ho.2, hh]; exact hf, by simp⟩
          | succ k => simp at hk
      · cases h
    · cases h
  · cases h
 | .box cs, X, nx, x, ns, ex, nx', h, hex => by
  unfold fromA at h
  split at h
  · rename_i hn
    split at h
    · rename_i c hh
      split at h
      · rename_i y ms ey nxy hy
        simp only [Option.some.injEq, Fr.mk.injEq] at h; obtain ⟨rfl, rfl, rfl, rfl⟩ := h
        have ih := fromA_trans H hold cs c nx y ms ey nxy hy hex
        have ho := hold hn (by rw [hh]; simp)
        obtain ⟨v, hv, hs⟩ := H hn (by rw [hh]; simp)
        rw [hh] at hs
        refine ⟨by simp [ih.len, nn], fun nm n β1 hag => ?_⟩
        obtain ⟨i1, i2, i3, i4⟩ := ih.go nm (n + 1) β1 (fun k h hk => by
         have := hag (k + 1) h (by simpa using hk)
         rwa [show n + (k + 1) = n + 1 + k by omega] at this)
        have h0 := hag 0 hn rfl
        rw [Nat.add_zero] at h0
        refine ⟨fun u hu => ?_, fun l hl => (by rcases satL_not hl with e | ⟨a, b, e⟩ <;> cases e), fun l hl => (by rcases satT_not hl with e | ⟨a, b, e⟩ <;> cases e), fun k h o hk hob => ?_⟩
        · unfold intoA sat
          unfold sat at hu
          rw [h0, ho.1]; exact hu
        · cases k with
          | zero =>
           cases hk; cases hob
           obtain ⟨b, l, e, hl, hc⟩ := hs
           subst e
           exact ⟨_, by rw [ho.1]; exact hv, ⟨b, l, rfl, i2 l hl, hc⟩, fun b i hf => by rw [ho.2, hh]; exact hf, fun b hf => by rw [ho.2, hh]; exact hf, by simp⟩
          | succ k => exact i4 k h o (by simpa using hk) (by simpa [objsA] using hob)
      · cases h
    · cases h
  · cases h
 | .clos f cs, X, nx, x, ns, ex, nx', h, hex => by
  unfold fromA at h
  split at h
  · rename_i g c
    split at h
    · rename_i hg
      have hg := Nat.eq_of_beq_eq_true hg
      subst hg
      split at h
      · rename_i y ms ey nxy hy
        simp only [Option.some.injEq, Fr.mk.injEq] at h; obtain ⟨rfl, rfl, rfl, rfl⟩ := h
        have ih := fromA_trans H hold cs c nx y ms ey nxy hy hex
        refine ⟨ih.len, fun nm n β1 hag => ?_⟩
        obtain ⟨i1, i2, i3, i4⟩ := ih.go nm n β1 hag
        refine ⟨fun u hu => ?_, fun l hl => (by rcases satL_not hl with e | ⟨a, b, e⟩ <;> cases e), fun l hl => (by rcases satT_not hl with e | ⟨a, b, e⟩ <;> cases e), i4⟩
        unfold intoA sat
        unfold sat at hu
        obtain ⟨l, e, hl⟩ := hu
        exact ⟨l, e, i3 l hl⟩
      · cases h
    · cases h
  · cases h
 | .nilp, X, nx, x, ns, ex, nx', h, hex => by
  unfold fromA at h
  split at h
  · simp only [Option.some.injEq, Fr.mk.injEq] at h; obtain ⟨_, rfl, rfl, rfl⟩ := h
    exact ⟨rfl, fun nm n β1 hag => ⟨fun v hv => hv, fun l hl => (by rcases satL_not hl with e | ⟨a, b, e⟩ <;> cases e), fun l hl => (by rcases satT_not hl with e | ⟨a, b, e⟩ <;> cases e), fun k h o hk _ => by simp at hk⟩⟩
  · cases h
 | .nils, X, nx, x, ns, ex, nx', h, hex => by
  unfold fromA at h
  split at h
  · simp only [Option.some.injEq, Fr.mk.injEq] at h; obtain ⟨_, rfl, rfl, rfl⟩ := h
    exact ⟨rfl, fun nm n β1 hag => ⟨fun v hv => hv, fun l hl => (by rcases satL_not hl with e | ⟨a, b, e⟩ <;> cases e), fun l hl => (by rcases satT_not hl with e | ⟨a, b, e⟩ <;> cases e), fun k h o hk _ => by simp at hk⟩⟩
  · cases h
 | .nil, X, nx, x, ns, ex, nx', h, hex => by
  unfold fromA at h
  split at h
  · simp only [Option.some.injEq, Fr.mk.injEq] at h; obtain ⟨_, rfl, rfl, rfl⟩ := h
    exact ⟨rfl, fun nm n β1 hag => ⟨fun v hv => hv, fun l hl => hl, fun l hl => hl, fun k h o hk _ => by simp at hk⟩⟩
  · cases h
 | .cons a b, X, nx, x, ns, ex, nx', h, hex => by
  unfold fromA at h
  split at h
  · rename_i Y Z
    split at h
    · rename_i y ys ey nx1 hy
      split at h
      · rename_i z zs ez nx2 hz
        simp only [Option.some.injEq, Fr.mk.injEq] at h; obtain ⟨rfl, rfl, rfl, rfl⟩ := h
        have ia := fromA_trans H hold a Y nx y ys ey nx1 hy (fun h o hm => hex h o (List.mem_append_left _ hm))
        have ib := fromA_trans H hold b Z nx1 z zs ez nx2 hz (fun h o hm => hex h o (List.mem_append_right _ hm))
        refine ⟨by simp [ia.len, ib.len, nn], fun nm n β1 hag => ?_⟩
        obtain ⟨a1, a2, a3, a4⟩ := ia.go nm n β1 (fun k h hk => hag k h (by rw [List.getElem?_append_left (List.getElem?_eq_some_iff.1 hk).1]; exact hk))
        obtain ⟨b1, b2, b3, b4⟩ := ib.go nm (n + nn a) β1 (fun k h hk => by
         have := hag (nn a + k) h (by rw [← ia.len, List.getElem?_append_right (by omega)]; simpa using hk)
         rwa [← Nat.add_assoc] at this)
        refine ⟨fun v hv => by unfold sat at hv; exact hv.elim, fun l hl => ?_, fun l hl => ?_, fun k h o hk hob => ?_⟩
        · unfold intoA
          rw [satL_cons] at hl ⊢
          obtain ⟨v, l', e, ho, h1, h2⟩ := hl
          exact ⟨v, l', e, ho, a1 v h1, b2 l' h2⟩
        · unfold intoA
          unfold satT at hl ⊢
          obtain ⟨v, l', e, h1, h2⟩ := hl
          exact ⟨v, l', e, a1 v h1, b3 l' h2⟩
        · have hla := objsA_len nm a y n
          by_cases hlt : k < ys.length
          · rw [List.getElem?_append_left hlt] at hk
            simp only [objsA] at hob
            rw [List.getElem?_append_left (by rw [hla, ← ia.len]; exact hlt)] at hob
            exact a4 k h o hk hob
          · rw [List.getElem?_append_right (by omega)] at hk
            simp only [objsA] at hob
            rw [List.getElem?_append_right (by rw [hla, ← ia.len]; omega), hla] at hob
            exact b4 _ h o hk (by rw [ia.len]; exact hob)
      · cases h
    · cases h
  · cases h
end Go.Gv

/- Own memory under other names; rows given up for good; the frame rule under other names. -/
namespace Go.Gv
open Go
def Owns (o : HObj) (v : Value) : Prop := (∃ b i, fpc o v b i) ∨ ∃ b, fpo o v b
def Src (β : Asg) (hp : Nat → HObj) (src : Nat → Nat → Prop) (h : Nat) (o : HObj) (v : Value) : Prop :=
 ∃ m, src h m ∧ β m = some v ∧ (∀ b i, fpc o v b i → fpc (hp m) v b i) ∧ (∀ b, fpo o v b → fpo (hp m) v b)
theorem HeapOK.rebind {hp : Nat → HObj} {β : Asg} {G : GW} (H : HeapOK hp β G) (hp2 : Nat → HObj) (β2 : Asg) (src : Nat → Nat → Prop) (hno : ∀ h, hp2 h = .none → β2 h = none)
    (hsat : ∀ h, hp2 h ≠ .none → ∃ v, β2 h = some v ∧ satH (hp2 h) v β2 G)
    (hsrc : ∀ h v, β2 h = some v → Owns (hp2 h) v → Src β hp src h (hp2 h) v)
    (hinj : ∀ h h' m, src h m → src h' m → h = h') : HeapOK hp2 β2 G := {
 no := hno
 sat := hsat
 im := fun h v hv b i hf => by obtain ⟨m, _, e, f, _⟩ := hsrc h v hv (.inl ⟨b, i, hf⟩); exact H.im _ v e b i (f b i hf)
 imo := fun h v hv b hf => by obtain ⟨m, _, e, _, f⟩ := hsrc h v hv (.inr ⟨b, hf⟩); exact H.imo _ v e b (f b hf)
 dis := fun h h' v v' hne hv hv' b i hf hf' => by
  obtain ⟨m, s, e, f, _⟩ := hsrc h v hv (.inl ⟨b, i, hf⟩)
  obtain ⟨m', s', e', f', _⟩ := hsrc h' v' hv' (.inl ⟨b, i, hf'⟩)
  exact H.dis _ _ v v' (fun eq => hne (hinj h h' m s (by rw [eq]; exact s'))) e e' b i (f b i hf) (f' b i hf')
 diso := fun h h' v v' hne hv hv' b hf hf' => by
  obtain ⟨m, s, e, _, f⟩ := hsrc h v hv (.inr ⟨b, hf⟩)
  obtain ⟨m', s', e', _, f'⟩ := hsrc h' v' hv' (.inr ⟨b, hf'⟩)
  exact H.diso _ _ v v' (fun eq => hne (hinj h h' m s (by rw [eq]; exact s'))) e e' b (f b hf) (f' b hf')
 old := H.old
 oldo := H.oldo }
theorem HInv.rebind {C : Ctx} {hp : Nat → HObj} {β : Asg} {G : GW} (H : HInv C hp β G) (hp2 : Nat → HObj) (β2 : Asg) (src : Nat → Nat → Prop) (hno : ∀ h, hp2 h = .none → β2 h = none)
    (hsat : ∀ h, hp2 h ≠ .none → ∃ v, β2 h = some v ∧ satH (hp2 h) v β2 G)
    (hsrc : ∀ h v, β2 h = some v → Owns (hp2 h) v → Src β hp src h (hp2 h) v)
    (hinj : ∀ h h' m, src h m → src h' m → h = h') : HInv C hp2 β2 G := {
 heap := H.heap.rebind hp2 β2 src hno hsat hsrc hinj
 step := H.step
 own := fun h v hv b i hf => by obtain ⟨m, _, e, f, _⟩ := hsrc h v hv (.inl ⟨b, i, hf⟩); exact H.own _ v e b i (f b i hf)
 owno := fun h v hv b hf => by obtain ⟨m, _, e, _, f⟩ := hsrc h v hv (.inr ⟨b, hf⟩); exact H.owno _ v e b (f b hf)
 glob := H.glob }
theorem HInv.freezeRow {C : Ctx} {hp : Nat → HObj} {β : Asg} {G : GW} (H : HInv C hp β G) {h : Nat} {t : Ty} {xs : List (Dat t)} (hh : hp h = .row t xs) :
    ∃ G', G'.w = G.w ∧ G.le G' ∧ HInv C (hset hp [(h, .frz t xs)]) β G' := by
 obtain ⟨v, hv, hs⟩ := H.heap.sat h (by rw [hh]; simp)
 let G' : GW := { w := G.w, im := fun b i => G.im b i ∨ fpc (hp h) v b i, imo := G.imo, nz := G.nz }
 have hle : G.le G' := ⟨fun b i hi => ⟨.inl hi, rfl⟩, fun b hi => ⟨hi, rfl⟩⟩
 have hst : Step (fpc (hp h) v) (fpo (hp h) v) G G' := ⟨rfl, rfl, rfl, Nat.le_refl _, fun _ _ _ _ => ⟨rfl, rfl⟩, fun _ _ _ _ => rfl, fun _ _ _ _ h => h, hle, fun b i hi => hi.elim .inl (fun h => .inr (.inl h)), fun b hi => .inl hi, .inl (Nat.le_refl _), rfl⟩
 have hold : ∀ b i, G'.im b i → b < G'.w.heap.size := fun b i hi => hi.elim (H.heap.old b i) (fun hf => (H.heap.im h v hv b i hf).2)
 refine ⟨G', rfl, hle, ⟨H.heap.gen (fun n => n = h) hst (Asg.le_refl β) (fun n hne => ⟨by simp [hset, hne], rfl⟩) (fun b i hf => ⟨h, v, rfl, hv, hf⟩) (fun b hf => ⟨h, v, rfl, hv, hf⟩)
  (fun n e hno => by subst e; simp [hset] at hno) (fun n e _ => ?_) (fun n u e hu b i hf => by subst e; simp [hset, fpc] at hf) (fun n u e hu b hf => by subst e; simp [hset, fpo] at hf)
  (fun n n' _ _ e e' hne => (hne (e.trans e'.symm)).elim) (fun n n' _ _ e e' hne => (hne (e.trans e'.symm)).elim) hold H.heap.oldo, ?_, ?_, ?_, ?_⟩⟩
 · subst e
   refine ⟨v, hv, ?_⟩
   simp only [hset, if_true]
   rw [hh] at hs
   obtain ⟨base, cap, rfl, h1, h2, h3, h4⟩ := hs
   refine .of_one rfl ⟨base, cap, rfl, h1, h2, h3, fun a ha => ⟨(h4 a ha).1, fun i x hx => ?_⟩⟩
   obtain ⟨cells, hc, hr⟩ := (h4 a ha).2.2 i x hx
   refine ⟨cells, fun j u hu => ⟨.inr ?_, hc j u hu⟩, Rep.mono t hr hle⟩
   rw [hh, ha]
   have hi : i < xs.length := (List.getElem?_eq_some_iff.1 hx).1
   have hj : j < t.size := by rw [← Rep.length t hr]; exact (List.getElem?_eq_some_iff.1 hu).1
   have hm : i * t.size + t.size ≤ cap * t.size := by rw [← Nat.succ_mul]; exact Nat.mul_le_mul_right _ (by omega)
   exact ⟨rfl, by omega, by omega⟩
 · exact H.step.trans hst (fun b o hf => H.own h v hv b o hf) (fun b hf => H.owno h v hv b hf)
 · intro n u hu b i hf
   by_cases e : n = h
   · subst e; simp [hset, fpc] at hf
   · simp [hset, e] at hf; exact H.own n u hu b i hf
 · intro n u hu b hf
   by_cases e : n = h
   · subst e; simp [hset, fpo] at hf
   · simp [hset, e] at hf; exact H.owno n u hu b hf
 · exact fun g t x hx => (H.glob g t x hx).mono hle
theorem satL_closed : ∀ {cs : AP} {β β' : Asg} {G : GW} {l : List Value}, closedL cs = true → satL cs β G l → satL cs β' G l
 | .nil, _, _, _, _, _, h => by unfold satL at h ⊢; exact h
 | .cons (.dat t x) r, _, _, _, _, hc, h => by
  unfold satL at h ⊢
  obtain ⟨v, l', e, o, h1, h2⟩ := h
  exact ⟨v, l', e, o, by unfold sat at h1 ⊢; exact h1, satL_closed (by simpa only [closedL] using hc) h2⟩
 | .cons (.blit b) r, _, _, _, _, hc, h => by
  unfold satL at h ⊢
  obtain ⟨v, l', e, o, h1, h2⟩ := h
  exact ⟨v, l', e, o, by unfold sat at h1 ⊢; exact h1, satL_closed (by simpa only [closedL] using hc) h2⟩
theorem HInv.freezeBox {C : Ctx} {hp : Nat → HObj} {β : Asg} {G : GW} (H : HInv C hp β G) {h : Nat} {cs : AP} (hh : hp h = .box cs) (hc : closedL cs = true) :
    ∃ G', G'.w = G.w ∧ G.le G' ∧ HInv C (hset hp [(h, .frzb cs)]) β G' := by
 obtain ⟨v, hv, hs⟩ := H.heap.sat h (by rw [hh]; simp)
 let G' : GW := { w := G.w, im := fun b i => G.im b i ∨ fpc (hp h) v b i, imo := G.imo, nz := G.nz }
 have hle : G.le G' := ⟨fun b i hi => ⟨.inl hi, rfl⟩, fun b hi => ⟨hi, rfl⟩⟩
 have hst : Step (fpc (hp h) v) (fpo (hp h) v) G G' := ⟨rfl, rfl, rfl, Nat.le_refl _, fun _ _ _ _ => ⟨rfl, rfl⟩, fun _ _ _ _ => rfl, fun _ _ _ _ h => h, hle, fun b i hi => hi.elim .inl (fun h => .inr (.inl h)), fun b hi => .inl hi, .inl (Nat.le_refl _), rfl⟩
 have hold : ∀ b i, G'.im b i → b < G'.w.heap.size := fun b i hi => hi.elim (H.heap.old b i) (fun hf => (H.heap.im h v hv b i hf).2)
 refine ⟨G', rfl, hle, ⟨H.heap.gen (fun n => n = h) hst (Asg.le_refl β) (fun n hne => ⟨by simp [hset, hne], rfl⟩) (fun b i hf => ⟨h, v, rfl, hv, hf⟩) (fun b hf => ⟨h, v, rfl, hv, hf⟩)
  (fun n e hno => by subst e; simp [hset] at hno) (fun n e _ => ?_) (fun n u e hu b i hf => by subst e; simp [hset, fpc] at hf) (fun n u e hu b hf => by subst e; simp [hset, fpo] at hf)
  (fun n n' _ _ e e' hne => (hne (e.trans e'.symm)).elim) (fun n n' _ _ e e' hne => (hne (e.trans e'.symm)).elim) hold H.heap.oldo, ?_, ?_, ?_, ?_⟩⟩
 · subst e
   refine ⟨v, hv, ?_⟩
   simp only [hset, if_true]
   rw [hh] at hs
   obtain ⟨b, l, rfl, h1, h2⟩ := hs
   refine ⟨b, l, rfl, satL.mono cs (satL_closed hc h1) (Asg.le_refl _) hle, fun j u hu => ⟨.inr ?_, ?_⟩⟩
   · rw [hh]; rfl
   · rw [Nat.zero_add]; exact (h2 j u hu).1
 · exact H.step.trans hst (fun b o hf => H.own h v hv b o hf) (fun b hf => H.owno h v hv b hf)
 · intro n u hu b i hf
   by_cases e : n = h
   · subst e; simp [hset, fpc] at hf
   · simp [hset, e] at hf; exact H.own n u hu b i hf
 · intro n u hu b hf
   by_cases e : n = h
   · subst e; simp [hset, fpo] at hf
   · simp [hset, e] at hf; exact H.owno n u hu b hf
 · exact fun g t x hx => (H.glob g t x hx).mono hle
def frzO : HObj → Option HObj
 | .row t xs => some (.frz t xs)
 | .map k v m => some (.ob (.fm k v) m)
 | .box cs => match closedL cs with
  | true => some (.frzb cs)
  | false => none
 | _ => none
theorem HInv.freeze {C : Ctx} {hp : Nat → HObj} {β : Asg} {G : GW} (H : HInv C hp β G) {h : Nat} {o : HObj} (hh : frzO (hp h) = some o) :
    ∃ G', G'.w = G.w ∧ G.le G' ∧ HInv C (hset hp [(h, o)]) β G' := by
 unfold frzO at hh
 split at hh
 · rename_i hq; cases hh; exact H.freezeRow hq
 · rename_i hq; cases hh; exact H.freezeMap hq
 · rename_i hq
   split at hh
   · rename_i hc; cases hh; exact H.freezeBox hq hc
   · cases hh
 · cases hh
theorem hset_cons (hp : Nat → HObj) (h : Nat) (o : HObj) (r : List (Nat × HObj)) : hset hp ((h, o) :: r) = hset (hset hp r) [(h, o)] := rfl
theorem HInv.freezeL {C : Ctx} {hp : Nat → HObj} {β : Asg} : ∀ (l : List (Nat × HObj)) {G : GW}, HInv C hp β G → (∀ h o, (h, o) ∈ l → frzO (hp h) = some o) →
    ∃ G', G'.w = G.w ∧ G.le G' ∧ HInv C (hset hp l) β G'
 | [], G, H, _ => ⟨G, rfl, G.le_refl, H⟩
 | (h, o) :: r, G, H, hl => by
  obtain ⟨G1, e1, l1, H1⟩ := HInv.freezeL r H (fun h o hm => hl h o (List.mem_cons_of_mem _ hm))
  have hh := hl h o List.mem_cons_self
  by_cases hk : h ∈ keysH r
  · have he : hset hp r h = o := by
     have : ∃ o', (h, o') ∈ r ∧ hset hp r h = o' := by
      clear hl H1
      induction r with
      | nil => simp [keysH] at hk
      | cons e r ih =>
       obtain ⟨k, o'⟩ := e
       by_cases ek : h = k
       · subst ek; exact ⟨o', List.mem_cons_self, by simp [hset]⟩
       · obtain ⟨o2, m2, e2⟩ := ih (by simpa [keysH, ek] using hk)
         exact ⟨o2, List.mem_cons_of_mem _ m2, by simp [hset, ek]; exact e2⟩
     obtain ⟨o', m, e⟩ := this
     have hh' := hl h o' (List.mem_cons_of_mem _ m)
     rw [hh] at hh'; cases hh'
     exact e
    refine ⟨G1, e1, l1, ?_⟩
    have : hset hp ((h, o) :: r) = hset hp r := by
     funext n
     simp only [hset]
     split
     · rename_i e; rw [e]; exact he.symm
     · rfl
    rw [this]; exact H1
  · have hh1 : frzO (hset hp r h) = some o := by rw [hset_not hk]; exact hh
    obtain ⟨G2, e2, l2, H2⟩ := H1.freeze hh1
    exact ⟨G2, e2.trans e1, GW.le_trans l1 l2, by rw [hset_cons]; exact H2⟩
theorem frzArgs_spec {hp : Nat → HObj} (s : Sh) (args : List AP) (h : Nat) (o : HObj) (hm : (h, o) ∈ frzArgs hp s args) : frzO (hp h) = some o := by
 fun_induction frzArgs hp s args with
 | case1 t s k r u xs hh ih =>
  rcases List.mem_cons.1 hm with e | hm
  · cases e; rw [hh]; rfl
  · exact ih hm
 | case3 t s k off r cs hh hc ih =>
  rcases List.mem_cons.1 hm with e | hm
  · cases e; rw [hh]; simp only [frzO, hc]
  · exact ih hm
 | case6 =>
  rename_i hh ih
  rcases List.mem_cons.1 hm with e | hm
  · cases e; rw [hh]; rfl
  · exact ih hm
 | case8 f cs s g caps r ih1 ih2 =>
  rcases List.mem_append.1 hm with hm | hm
  · exact ih1 hm
  · exact ih2 hm
 | _ =>
  first
   | (rename_i ih; exact ih hm)
   | cases hm
theorem HInv.frameR {C : Ctx} {hp : Nat → HObj} {β : Asg} {G : GW} (H : HInv C hp β G) {R : List Nat} {C1 : Ctx} (hC : C1.G0 = G) (hF : ∀ b i, C1.F0 b i → ∃ h v, h ∈ R ∧ β h = some v ∧ fpc (hp h) v b i) (hFo : ∀ b, C1.Fo0 b → ∃ h v, h ∈ R ∧ β h = some v ∧ fpo (hp h) v b)
    {hp1 : Nat → HObj} {β1 : Asg} {G1 : GW} (H1 : HInv C1 hp1 β1 G1) (hp2 : Nat → HObj) (β2 : Asg) (K : Nat → Prop) (src : Nat → Nat → Prop) (hRK : ∀ h ∈ R, K h) (hK : ∀ h, ¬ K h → hp2 h = hp h ∧ β2 h = β h) (hle : β.le β2)
    (hno : ∀ h, K h → hp2 h = .none → β2 h = none) (hsat : ∀ h, K h → hp2 h ≠ .none → ∃ v, β2 h = some v ∧ satH (hp2 h) v β2 G1)
    (hsrc : ∀ h v, K h → β2 h = some v → Owns (hp2 h) v → Src β1 hp1 src h (hp2 h) v)
    (hinj : ∀ h h' m, src h m → src h' m → h = h') : HInv C hp2 β2 G1 := by
 have hst := H1.step
 rw [hC] at hst
 have hown : ∀ h v, K h → β2 h = some v → ∀ b i, fpc (hp2 h) v b i → C1.F0 b i ∨ G.w.heap.size ≤ b := fun h v hk hv b i hf => by
  obtain ⟨m, _, e, f, _⟩ := hsrc h v hk hv (.inl ⟨b, i, hf⟩)
  have := H1.own _ v e b i (f b i hf)
  rwa [hC] at this
 have howno : ∀ h v, K h → β2 h = some v → ∀ b, fpo (hp2 h) v b → C1.Fo0 b ∨ G.w.heap.size ≤ b := fun h v hk hv b hf => by
  obtain ⟨m, _, e, _, f⟩ := hsrc h v hk hv (.inr ⟨b, hf⟩)
  have := H1.owno _ v e b (f b hf)
  rwa [hC] at this
 refine ⟨H.heap.gen K hst hle hK (fun b i hf => ?_) (fun b hf => ?_) hno hsat (fun h v hk hv b i hf => ⟨?_, ?_⟩) (fun h v hk hv b hf => ⟨?_, ?_⟩)
  (fun h h' v v' hk hk' hne hv hv' b i hf hf' => ?_) (fun h h' v v' hk hk' hne hv hv' b hf hf' => ?_) H1.heap.old H1.heap.oldo, H.step.trans hst (fun b i hf => ?_) (fun b hf => ?_), fun h v hv b i hf => ?_, fun h v hv b hf => ?_, fun g t x hx => (H.glob g t x hx).mono hst.le⟩
 · obtain ⟨h, v, hr, hv, hf⟩ := hF b i hf; exact ⟨h, v, hRK h hr, hv, hf⟩
 · obtain ⟨h, v, hr, hv, hf⟩ := hFo b hf; exact ⟨h, v, hRK h hr, hv, hf⟩
 · refine (hown h v hk hv b i hf).imp (fun hf => ?_) id
   obtain ⟨h, v, hr, hv, hf⟩ := hF b i hf; exact ⟨h, v, hRK h hr, hv, hf⟩
 · obtain ⟨m, _, e, f, _⟩ := hsrc h v hk hv (.inl ⟨b, i, hf⟩); exact H1.heap.im _ v e b i (f b i hf)
 · refine (howno h v hk hv b hf).imp (fun hf => ?_) id
   obtain ⟨h, v, hr, hv, hf⟩ := hFo b hf; exact ⟨h, v, hRK h hr, hv, hf⟩
 · obtain ⟨m, _, e, _, f⟩ := hsrc h v hk hv (.inr ⟨b, hf⟩); exact H1.heap.imo _ v e b (f b hf)
 · obtain ⟨m, s, e, f, _⟩ := hsrc h v hk hv (.inl ⟨b, i, hf⟩)
   obtain ⟨m', s', e', f', _⟩ := hsrc h' v' hk' hv' (.inl ⟨b, i, hf'⟩)
   exact H1.heap.dis _ _ v v' (fun eq => hne (hinj h h' m s (by rw [eq]; exact s'))) e e' b i (f b i hf) (f' b i hf')
 · obtain ⟨m, s, e, _, f⟩ := hsrc h v hk hv (.inr ⟨b, hf⟩)
   obtain ⟨m', s', e', _, f'⟩ := hsrc h' v' hk' hv' (.inr ⟨b, hf'⟩)
   exact H1.heap.diso _ _ v v' (fun eq => hne (hinj h h' m s (by rw [eq]; exact s'))) e e' b (f b hf) (f' b hf')
 · obtain ⟨h, v, hr, hv, hf⟩ := hF b i hf; exact H.own h v hv b i hf
 · obtain ⟨h, v, hr, hv, hf⟩ := hFo b hf; exact H.owno h v hv b hf
 · by_cases hk : K h
   · rcases hown h v hk hv b i hf with hf | hsz
     · obtain ⟨h0, v0, _, hv0, hf0⟩ := hF b i hf; exact H.own h0 v0 hv0 b i hf0
     · exact .inr (Nat.le_trans H.step.size hsz)
   · rw [(hK h hk).2] at hv; rw [(hK h hk).1] at hf; exact H.own h v hv b i hf
 · by_cases hk : K h
   · rcases howno h v hk hv b hf with hf | hsz
     · obtain ⟨h0, v0, _, hv0, hf0⟩ := hFo b hf; exact H.owno h0 v0 hv0 b hf0
     · exact .inr (Nat.le_trans H.step.size hsz)
   · rw [(hK h hk).2] at hv; rw [(hK h hk).1] at hf; exact H.owno h v hv b hf
theorem HInv.ext {C : Ctx} {hp : Nat → HObj} : ∀ (ex : List (Nat × HObj)) {β : Asg} {G : GW}, HInv C hp β G → (keysH ex).Nodup → (∀ h o, (h, o) ∈ ex → hp h = .none ∧ ((∃ t, o = .row t []) ∨ ∃ t, o = .spare t)) →
    ∃ βx, HInv C (hset hp ex) βx G ∧ β.le βx ∧ (∀ h o, (h, o) ∈ ex → βx h = some (.slice none 0 0)) ∧ ∀ h, h ∉ keysH ex → βx h = β h
 | [], β, G, H, _, _ => ⟨β, H, Asg.le_refl β, fun _ _ h => (by cases h), fun _ _ => rfl⟩
 | (n, o) :: r, β, G, H, hnd, hex => by
  simp only [keysH, List.map_cons, List.nodup_cons] at hnd
  obtain ⟨βx, H1, l1, h1, h2⟩ := HInv.ext r H hnd.2 (fun h o hm => hex h o (List.mem_cons_of_mem _ hm))
  obtain ⟨hn, ho⟩ := hex n o List.mem_cons_self
  have hn1 : hset hp r n = .none := by rw [hset_not hnd.1]; exact hn
  have hnb : βx n = none := H1.heap.no n hn1
  have H2 := H1.name hn1 o (.slice none 0 0) (by rcases ho with ⟨t, rfl⟩ | ⟨t, rfl⟩ <;> simp) (by
   rcases ho with ⟨t, rfl⟩ | ⟨t, rfl⟩
   · exact nil_slice_sat
   · exact nil_spare_sat) (fun b i hf => by rcases ho with ⟨t, rfl⟩ | ⟨t, rfl⟩ <;> cases hf) (fun b hf => by rcases ho with ⟨t, rfl⟩ | ⟨t, rfl⟩ <;> cases hf)
  refine ⟨_, by rw [hset_cons]; exact H2, Asg.le_trans l1 (asg_le H1.heap hn1 _), fun h o' hm => ?_, fun h hk => ?_⟩
  · rcases List.mem_cons.1 hm with e | hm
    · cases e; simp
    · by_cases e : h = n
      · simp [e]
      · simp only [e, if_false]; exact h1 h o' hm
  · simp only [keysH, List.map_cons, List.mem_cons, not_or] at hk
    simp only [hk.1, if_false]
    exact h2 h hk.2
theorem fromA_ex {hp : Nat → HObj} : ∀ (s : Sh) (X : AP) (nx : Nat) (x : SDat s) (ns : List Nat) (ex : List (Nat × HObj)) (nx' : Nat), fromA hp s X nx = some ⟨x, ns, ex, nx'⟩ →
    nx ≤ nx' ∧ (keysH ex).Nodup ∧ (∀ h o, (h, o) ∈ ex → nx ≤ h ∧ h < nx' ∧ ((∃ t, o = .row t []) ∨ ∃ t, o = .spare t)) ∧ (∀ h ∈ ns, hp h ≠ .none ∨ h ∈ keysH ex) := by
 intro s
 induction s with
 | d t =>
  intro X nx x ns ex nx' h
  unfold fromA at h
  split at h
  · simp only [Option.some.injEq, Fr.mk.injEq] at h; obtain ⟨rfl, rfl, rfl, rfl⟩ := h
    exact ⟨Nat.le_refl _, by simp [keysH], fun h o hm => (by cases hm), fun h hm => (by cases hm)⟩
  · cases h
 | row t =>
  intro X nx x ns ex nx' h
  unfold fromA at h
  split at h
  · split at h
    · rename_i hh
      split at h
      · simp only [Option.some.injEq, Fr.mk.injEq] at h; obtain ⟨rfl, rfl, rfl, rfl⟩ := h
        exact ⟨Nat.le_refl _, by simp [keysH], fun h o hm => (by cases hm), fun h hm => (by rw [List.mem_singleton] at hm; subst hm; exact .inl (by rw [hh]; simp))⟩
      · cases h
    · cases h
  · simp only [Option.some.injEq, Fr.mk.injEq] at h; obtain ⟨rfl, rfl, rfl, rfl⟩ := h
    exact ⟨by omega, by simp [keysH], fun h o hm => (by rw [List.mem_singleton] at hm; cases hm; exact ⟨Nat.le_refl _, by omega, .inl ⟨_, rfl⟩⟩), fun h hm => by rw [List.mem_singleton] at hm; subst hm; exact .inr (by simp [keysH])⟩
  · cases h
 | take t =>
  intro X nx x ns ex nx' h
  unfold fromA at h
  split at h
  · split at h
    · rename_i hh
      split at h
      · simp only [Option.some.injEq, Fr.mk.injEq] at h; obtain ⟨rfl, rfl, rfl, rfl⟩ := h
        exact ⟨Nat.le_refl _, by simp [keysH], fun h o hm => (by cases hm), fun h hm => (by rw [List.mem_singleton] at hm; subst hm; exact .inl (by rw [hh]; simp))⟩
      · cases h
    · cases h
  · simp only [Option.some.injEq, Fr.mk.injEq] at h; obtain ⟨rfl, rfl, rfl, rfl⟩ := h
    exact ⟨by omega, by simp [keysH], fun h o hm => (by rw [List.mem_singleton] at hm; cases hm; exact ⟨Nat.le_refl _, by omega, .inl ⟨_, rfl⟩⟩), fun h hm => by rw [List.mem_singleton] at hm; subst hm; exact .inr (by simp [keysH])⟩
  · cases h
 | spare t =>
  intro X nx x ns ex nx' h
  unfold fromA at h
  split at h
  · split at h
    · rename_i hh
      split at h
      · simp only [Option.some.injEq, Fr.mk.injEq] at h; obtain ⟨rfl, rfl, rfl, rfl⟩ := h
        exact ⟨Nat.le_refl _, by simp [keysH], fun h o hm => (by cases hm), fun h hm => (by rw [List.mem_singleton] at hm; subst hm; exact .inl (by rw [hh]; simp))⟩
      · cases h
    · cases h
  · simp only [Option.some.injEq, Fr.mk.injEq] at h; obtain ⟨rfl, rfl, rfl, rfl⟩ := h
    exact ⟨by omega, by simp [keysH], fun h o hm => (by rw [List.mem_singleton] at hm; cases hm; exact ⟨Nat.le_refl _, by omega, .inr ⟨_, rfl⟩⟩), fun h hm => by rw [List.mem_singleton] at hm; subst hm; exact .inr (by simp [keysH])⟩
  · cases h
 | map k v =>
  intro X nx x ns ex nx' h
  unfold fromA at h
  split at h
  · split at h
    · rename_i hh
      split at h
      · simp only [Option.some.injEq, Fr.mk.injEq] at h; obtain ⟨rfl, rfl, rfl, rfl⟩ := h
        exact ⟨Nat.le_refl _, by simp [keysH], fun h o hm => (by cases hm), fun h hm => (by rw [List.mem_singleton] at hm; subst hm; exact .inl (by rw [hh]; simp))⟩
      · cases h
    · cases h
  · cases h
 | ob κ =>
  intro X nx x ns ex nx' h
  unfold fromA at h
  split at h
  · split at h
    · rename_i hh
      split at h
      · simp only [Option.some.injEq, Fr.mk.injEq] at h; obtain ⟨rfl, rfl, rfl, rfl⟩ := h
        exact ⟨Nat.le_refl _, by simp [keysH], fun h o hm => (by cases hm), fun h hm => (by rw [List.mem_singleton] at hm; subst hm; exact .inl (by rw [hh]; simp))⟩
      · cases h
    · cases h
  · cases h
 | box cs ih =>
  intro X nx x ns ex nx' h
  unfold fromA at h
  split at h
  · split at h
    · rename_i hh
      split at h
      · rename_i hy
        simp only [Option.some.injEq, Fr.mk.injEq] at h; obtain ⟨rfl, rfl, rfl, rfl⟩ := h
        obtain ⟨i1, i2, i3, i4⟩ := ih _ _ _ _ _ _ hy
        refine ⟨i1, i2, i3, fun h hm => ?_⟩
        rcases List.mem_cons.1 hm with rfl | hm
        · exact .inl (by rw [hh]; simp)
        · exact i4 h hm
      · cases h
    · cases h
  · cases h
 | clos f cs ih =>
  intro X nx x ns ex nx' h
  unfold fromA at h
  split at h
  · split at h
    · split at h
      · rename_i hy
        simp only [Option.some.injEq, Fr.mk.injEq] at h; obtain ⟨rfl, rfl, rfl, rfl⟩ := h
        exact ih _ _ _ _ _ _ hy
      · cases h
    · cases h
  · cases h
 | nilp =>
  intro X nx x ns ex nx' h
  unfold fromA at h
  split at h
  · simp only [Option.some.injEq, Fr.mk.injEq] at h; obtain ⟨_, rfl, rfl, rfl⟩ := h
    exact ⟨Nat.le_refl _, by simp [keysH], fun h o hm => (by cases hm), fun h hm => (by cases hm)⟩
  · cases h
 | nils =>
  intro X nx x ns ex nx' h
  unfold fromA at h
  split at h
  · simp only [Option.some.injEq, Fr.mk.injEq] at h; obtain ⟨_, rfl, rfl, rfl⟩ := h
    exact ⟨Nat.le_refl _, by simp [keysH], fun h o hm => (by cases hm), fun h hm => (by cases hm)⟩
  · cases h
 | nil =>
  intro X nx x ns ex nx' h
  unfold fromA at h
  split at h
  · simp only [Option.some.injEq, Fr.mk.injEq] at h; obtain ⟨_, rfl, rfl, rfl⟩ := h
    exact ⟨Nat.le_refl _, by simp [keysH], fun h o hm => (by cases hm), fun h hm => (by cases hm)⟩
  · cases h
 | cons a b iha ihb =>
  intro X nx x ns ex nx' h
  unfold fromA at h
  split at h
  · split at h
    · rename_i hy
      split at h
      · rename_i hz
        simp only [Option.some.injEq, Fr.mk.injEq] at h; obtain ⟨rfl, rfl, rfl, rfl⟩ := h
        obtain ⟨a1, a2, a3, a4⟩ := iha _ _ _ _ _ _ hy
        obtain ⟨b1, b2, b3, b4⟩ := ihb _ _ _ _ _ _ hz
        refine ⟨Nat.le_trans a1 b1, ?_, fun h o hm => ?_, fun h hm => ?_⟩
        · simp only [keysH, List.map_append]
          refine List.nodup_append.2 ⟨a2, b2, fun u hu v hv => ?_⟩
          obtain ⟨⟨h1, o1⟩, m1, rfl⟩ := List.mem_map.1 hu
          obtain ⟨⟨h2, o2⟩, m2, rfl⟩ := List.mem_map.1 hv
          have := a3 h1 o1 m1
          have := b3 h2 o2 m2
          dsimp only; omega
        · rcases List.mem_append.1 hm with hm | hm
          · obtain ⟨c1, c2, c3⟩ := a3 h o hm
            exact ⟨c1, by omega, c3⟩
          · obtain ⟨c1, c2, c3⟩ := b3 h o hm
            exact ⟨by omega, c2, c3⟩
        · rcases List.mem_append.1 hm with hm | hm
          · exact (a4 h hm).imp id (fun hk => by simp only [keysH, List.map_append, List.mem_append] at hk ⊢; exact .inl hk)
          · exact (b4 h hm).imp id (fun hk => by simp only [keysH, List.map_append, List.mem_append] at hk ⊢; exact .inr hk)
      · cases h
    · cases h
  · cases h
end Go.Gv

/- Contracts, and that a call of a function that keeps its contract goes the ways the generator says. -/
namespace Go.Gv
open Go
def resV : List Value → Value
 | [v] => v
 | vs => .tuple vs.toArray
structure RetOK (C : Ctx) (ro : Bool) (ins : Sh) (A : Alt ins) (x : SDat ins) (β : Asg) (G : GW) (v : Value) (w' : World) : Prop where
 ex : ∃ (hp' : Nat → HObj) (β' : Asg) (G' : GW) (L : List AP) (vs : List Value) (nx : Nat) (y : SDat A.outs) (ns : List Nat) (ex : List (Nat × HObj)) (nx1 : Nat) (z : SDat (bk ro ins)) (ms : List Nat) (ey : List (Nat × HObj)) (nx2 : Nat),
  G'.w = w' ∧ HInv C hp' β' G' ∧ β.le β' ∧ G.le G' ∧ v = resV vs ∧ satT (listA L) β' G' vs ∧ (∀ n, nx ≤ n → hp' n = .none) ∧ fromA hp' A.outs (listA L) nx = some ⟨y, ns, ex, nx1⟩ ∧
  fromA hp' (bk ro ins) (bkEnd ro ins x) nx1 = some ⟨z, ms, ey, nx2⟩ ∧ nodupN (ns ++ ms) = true ∧ y = A.res x ∧ z = bkUpd ro A x ∧ idOK ro (nn ins) ms = true
def canon (s : Sh) (x : SDat s) : Nat → HObj := hset (fun _ => .none) (intoH (fun k => k) s x 0 [])
def SpecOK (P : Program) (gl : Glob) (f : FuncId) (S : Spec) : Prop :=
 (∃ fn, P.funcs[f]? = some fn ∧ fn.body.isNone = false ∧ (fn.name == "runtime.NumGoroutine") = false) ∧
 ∀ x, S.pre x → ∃ A, S.alts[S.sel x]? = some A ∧ ∀ (C : Ctx) (β : Asg) (G : GW) (args : List Value), C.glob = gl → (S.noisy = true → C.G0.nz) → HInv C (canon S.ins x) β G → satT (intoA (fun k => k) S.ins x 0) β G args →
  Calls P f args.toArray G.w (fun e w' => match e with
   | .returned v => RetOK C S.ro S.ins A x β G v w'
   | _ => False)
theorem nodupN_iff {l : List Nat} : nodupN l = true ↔ l.Nodup := by
 induction l with
 | nil => simp [nodupN]
 | cons a r ih =>
  simp only [nodupN, List.nodup_cons]
  split
  · rename_i h; have := memN_iff.1 h; simp [this]
  · rename_i h
    have : a ∉ r := fun hm => by rw [memN_iff.2 hm] at h; cases h
    simp [this, ih]
theorem zipN_keys (nm : Nat → Nat) : ∀ (l : List HObj) (n : Nat) (r : List (Nat × HObj)) (h : Nat) (o : HObj), (h, o) ∈ zipN nm l n r → (∃ k, l[k]? = some o ∧ h = nm (n + k)) ∨ (h, o) ∈ r
 | [], n, r, h, o, hm => .inr hm
 | a :: l, n, r, h, o, hm => by
  rcases List.mem_cons.1 hm with e | hm
  · cases e; exact .inl ⟨0, rfl, rfl⟩
  · rcases zipN_keys nm l (n + 1) r h o hm with ⟨k, h1, h2⟩ | h1
    · exact .inl ⟨k + 1, h1, by rw [h2]; congr 1; omega⟩
    · exact .inr h1
theorem zipN_mem (nm : Nat → Nat) : ∀ (l : List HObj) (n : Nat) (r : List (Nat × HObj)) (k : Nat) (o : HObj), l[k]? = some o → (nm (n + k), o) ∈ zipN nm l n r
 | [], n, r, k, o, h => by simp at h
 | a :: l, n, r, 0, o, h => by
  simp at h; subst h
  exact List.mem_cons_self
 | a :: l, n, r, k + 1, o, h => by
  have := zipN_mem nm l (n + 1) r k o (by simpa using h)
  rw [show n + 1 + k = n + (k + 1) by omega] at this
  exact List.mem_cons_of_mem _ this
theorem hset_zipN (nm : Nat → Nat) (hp : Nat → HObj) : ∀ (l : List HObj) (n : Nat) (r : List (Nat × HObj)) (h : Nat), hset hp (zipN nm l n r) h = hset (hset hp r) (zipN nm l n []) h
 | [], n, r, h => rfl
 | a :: l, n, r, h => by
  simp only [zipN, hset]
  split
  · rfl
  · exact hset_zipN nm hp l (n + 1) r h
theorem hset_zip_at (nm : Nat → Nat) (hp : Nat → HObj) : ∀ (l : List HObj) (n : Nat), (∀ i j, i < l.length → j < l.length → nm (n + i) = nm (n + j) → i = j) → ∀ (k : Nat) (o : HObj), l[k]? = some o → hset hp (zipN nm l n []) (nm (n + k)) = o
 | [], n, _, k, o, h => by simp at h
 | a :: l, n, hi, 0, o, h => by
  simp at h; subst h
  simp [zipN, hset]
 | a :: l, n, hi, k + 1, o, h => by
  have hk : k < l.length := (List.getElem?_eq_some_iff.1 (show l[k]? = some o by simpa using h)).1
  simp only [zipN, hset]
  have hne : ¬ nm (n + (k + 1)) = nm n := fun e => by
   have := hi (k + 1) 0 (by simp; omega) (by simp) e
   omega
  rw [if_neg hne]
  have := hset_zip_at nm hp l (n + 1) (fun i j h1 h2 e => by
   have := hi (i + 1) (j + 1) (by simp; omega) (by simp; omega) (by rwa [show n + (i + 1) = n + 1 + i by omega, show n + (j + 1) = n + 1 + j by omega])
   omega) k o (by simpa using h)
  rwa [show n + 1 + k = n + (k + 1) by omega] at this
theorem hset_zip_not (nm : Nat → Nat) (hp : Nat → HObj) : ∀ (l : List HObj) (n : Nat) (h : Nat), (∀ k, k < l.length → h ≠ nm (n + k)) → hset hp (zipN nm l n []) h = hp h
 | [], n, h, _ => rfl
 | a :: l, n, h, hh => by
  simp only [zipN, hset]
  rw [if_neg (by simpa using hh 0 (by simp))]
  exact hset_zip_not nm hp l (n + 1) h (fun k hk => by rw [show n + 1 + k = n + (k + 1) by omega]; exact hh (k + 1) (by simp; omega))
theorem canon_at (s : Sh) (x : SDat s) {k : Nat} {o : HObj} (h : (objsA (fun k => k) s x 0)[k]? = some o) : canon s x k = o := by
 unfold canon
 rw [intoH_eq]
 have := hset_zip_at (fun k => k) (fun _ => HObj.none) (objsA (fun k => k) s x 0) 0 (fun i j _ _ e => by omega) k o h
 rwa [Nat.zero_add] at this
theorem canon_out (s : Sh) (x : SDat s) {k : Nat} (h : nn s ≤ k) : canon s x k = .none := by
 unfold canon
 rw [intoH_eq]
 exact hset_zip_not (fun k => k) (fun _ => HObj.none) (objsA (fun k => k) s x 0) 0 k (fun j hj => by rw [objsA_len] at hj; omega)
theorem fromA_list {hp : Nat → HObj} {s : Sh} {L : List AP} {nx : Nat} {r : Fr (SDat s)} (h : fromA hp s (listA L) nx = some r) : (L = [] ∧ s = .nil) ∨ ∃ a b X L', L = X :: L' ∧ s = .cons a b ∧ ∃ nx' r', fromA hp b (listA L') nx' = some r' := by
 cases L with
 | nil =>
  cases s <;> first | (exact .inl ⟨rfl, rfl⟩) | skip
  all_goals (unfold listA fromA at h; try (cases h; done))
 | cons X L' =>
  cases s <;> try (unfold listA fromA at h; cases h; done)
  · rename_i a b
    unfold listA fromA at h
    refine .inr ⟨a, b, X, L', rfl, rfl, ?_⟩
    dsimp only at h
    split at h
    · split at h
      · rename_i hz; exact ⟨_, _, hz⟩
      · cases h
    · cases h
theorem hset_zipN_cases (nm : Nat → Nat) (hp : Nat → HObj) : ∀ (l : List HObj) (n : Nat) (r : List (Nat × HObj)) (h : Nat), (∃ k o, l[k]? = some o ∧ h = nm (n + k) ∧ hset hp (zipN nm l n r) h = o) ∨ ((∀ k, k < l.length → h ≠ nm (n + k)) ∧ hset hp (zipN nm l n r) h = hset hp r h)
 | [], n, r, h => .inr ⟨fun k hk => by simp at hk, rfl⟩
 | a :: l, n, r, h => by
  by_cases e : h = nm n
  · exact .inl ⟨0, a, rfl, e, by simp [zipN, hset, e]⟩
  · rcases hset_zipN_cases nm hp l (n + 1) r h with ⟨k, o, h1, h2, h3⟩ | ⟨h1, h2⟩
    · exact .inl ⟨k + 1, o, by simpa using h1, by rw [h2]; congr 1; omega, by simp only [zipN, hset]; rw [if_neg e]; exact h3⟩
    · refine .inr ⟨fun k hk => ?_, by simp only [zipN, hset]; rw [if_neg e]; exact h2⟩
      cases k with
      | zero => exact e
      | succ k => rw [show n + (k + 1) = n + 1 + k by omega]; exact h1 k (by simpa using hk)
theorem hset_zip_congr (hp hp' : Nat → HObj) (he : ∀ h, hp h = hp' h) : ∀ (l : List (Nat × HObj)) (h : Nat), hset hp l h = hset hp' l h
 | [], h => he h
 | (k, o) :: l, h => by
  simp only [hset]
  split
  · rfl
  · exact hset_zip_congr hp hp' he l h
theorem hset_deadL (hp : Nat → HObj) : ∀ (l : List Nat) (r : List (Nat × HObj)) (h : Nat), hset hp (deadL l r) h = if h ∈ l then .dead else hset hp r h
 | [], r, h => by simp [deadL]
 | a :: l, r, h => by
  simp only [deadL, hset]
  by_cases e : h = a
  · simp [e]
  · rw [if_neg e, hset_deadL hp l r h]; simp [e]
theorem hset_nodup {hp : Nat → HObj} : ∀ {l : List (Nat × HObj)} {h : Nat} {o : HObj}, (keysH l).Nodup → (h, o) ∈ l → hset hp l h = o
 | [], _, _, _, hm => by cases hm
 | (k, a) :: l, h, o, hn, hm => by
  simp only [keysH, List.map_cons, List.nodup_cons] at hn
  simp only [hset]
  rcases List.mem_cons.1 hm with e | hm'
  · cases e; simp
  · have hne : ¬ h = k := fun e => by subst e; exact hn.1 (List.mem_map.2 ⟨(h, o), hm', rfl⟩)
    rw [if_neg hne]
    exact hset_nodup hn.2 hm'
theorem waysA_get {ro : Bool} {ins : Sh} (sel : Nat) (x : SDat ins) (ns : List Nat) (fz : List (Nat × HObj)) (nx nx1 : Nat) : ∀ (l : List (Alt ins)) (i j : Nat) (A : Alt ins), l[j]? = some A → (waysA ro sel x ns fz nx nx1 l i)[j]? = some (wayA ro A (sel = i + j) x ns fz nx nx1)
 | [], _, _, _, h => by simp at h
 | B :: l, i, 0, A, h => by
  simp at h; subst h; rfl
 | B :: l, i, j + 1, A, h => by
  have := waysA_get (ro := ro) sel x ns fz nx nx1 l (i + 1) j A (by simpa using h)
  simp only [waysA, List.getElem?_cons_succ, this]
  congr 2
  rw [show i + 1 + j = i + (j + 1) by omega]
theorem fromA_len (hp : Nat → HObj) : ∀ (s : Sh) (X : AP) (nx : Nat) (x : SDat s) (ns : List Nat) (ex : List (Nat × HObj)) (nx' : Nat), fromA hp s X nx = some ⟨x, ns, ex, nx'⟩ → ns.length = nn s := by
 intro s
 induction s with
 | d t =>
  intro X nx x ns ex nx' h
  unfold fromA at h
  split at h
  · simp only [Option.some.injEq, Fr.mk.injEq] at h; obtain ⟨rfl, rfl, rfl, rfl⟩ := h; rfl
  · cases h
 | row t =>
  intro X nx x ns ex nx' h
  unfold fromA at h
  split at h
  · split at h
    · split at h
      · simp only [Option.some.injEq, Fr.mk.injEq] at h; obtain ⟨rfl, rfl, rfl, rfl⟩ := h; rfl
      · cases h
    · cases h
  · simp only [Option.some.injEq, Fr.mk.injEq] at h; obtain ⟨rfl, rfl, rfl, rfl⟩ := h; rfl
  · cases h
 | take t =>
  intro X nx x ns ex nx' h
  unfold fromA at h
  split at h
  · split at h
    · split at h
      · simp only [Option.some.injEq, Fr.mk.injEq] at h; obtain ⟨rfl, rfl, rfl, rfl⟩ := h; rfl
      · cases h
    · cases h
  · simp only [Option.some.injEq, Fr.mk.injEq] at h; obtain ⟨rfl, rfl, rfl, rfl⟩ := h; rfl
  · cases h
 | spare t =>
  intro X nx x ns ex nx' h
  unfold fromA at h
  split at h
  · split at h
    · split at h
      · simp only [Option.some.injEq, Fr.mk.injEq] at h; obtain ⟨rfl, rfl, rfl, rfl⟩ := h; rfl
      · cases h
    · cases h
  · simp only [Option.some.injEq, Fr.mk.injEq] at h; obtain ⟨rfl, rfl, rfl, rfl⟩ := h; rfl
  · cases h
 | map k v =>
  intro X nx x ns ex nx' h
  unfold fromA at h
  split at h
  · split at h
    · split at h
      · simp only [Option.some.injEq, Fr.mk.injEq] at h; obtain ⟨rfl, rfl, rfl, rfl⟩ := h; rfl
      · cases h
    · cases h
  · cases h
 | ob κ =>
  intro X nx x ns ex nx' h
  unfold fromA at h
  split at h
  · split at h
    · split at h
      · simp only [Option.some.injEq, Fr.mk.injEq] at h; obtain ⟨rfl, rfl, rfl, rfl⟩ := h; rfl
      · cases h
    · cases h
  · cases h
 | box cs ih =>
  intro X nx x ns ex nx' h
  unfold fromA at h
  split at h
  · split at h
    · split at h
      · rename_i hy
        simp only [Option.some.injEq, Fr.mk.injEq] at h; obtain ⟨rfl, rfl, rfl, rfl⟩ := h
        have := ih _ _ _ _ _ _ hy
        simp [nn, this]
      · cases h
    · cases h
  · cases h
 | clos f cs ih =>
  intro X nx x ns ex nx' h
  unfold fromA at h
  split at h
  · split at h
    · split at h
      · rename_i hy
        simp only [Option.some.injEq, Fr.mk.injEq] at h; obtain ⟨rfl, rfl, rfl, rfl⟩ := h
        exact ih _ _ _ _ _ _ hy
      · cases h
    · cases h
  · cases h
 | nilp =>
  intro X nx x ns ex nx' h
  unfold fromA at h
  split at h
  · simp only [Option.some.injEq, Fr.mk.injEq] at h; obtain ⟨_, rfl, rfl, rfl⟩ := h; rfl
  · cases h
 | nils =>
  intro X nx x ns ex nx' h
  unfold fromA at h
  split at h
  · simp only [Option.some.injEq, Fr.mk.injEq] at h; obtain ⟨_, rfl, rfl, rfl⟩ := h; rfl
  · cases h
 | nil =>
  intro X nx x ns ex nx' h
  unfold fromA at h
  split at h
  · simp only [Option.some.injEq, Fr.mk.injEq] at h; obtain ⟨_, rfl, rfl, rfl⟩ := h; rfl
  · cases h
 | cons a b iha ihb =>
  intro X nx x ns ex nx' h
  unfold fromA at h
  split at h
  · split at h
    · rename_i hy
      split at h
      · rename_i hz
        simp only [Option.some.injEq, Fr.mk.injEq] at h; obtain ⟨rfl, rfl, rfl, rfl⟩ := h
        simp [nn, iha _ _ _ _ _ _ hy, ihb _ _ _ _ _ _ hz]
      · cases h
    · cases h
  · cases h
theorem roots_spec {hp : Nat → HObj} : ∀ (s : Sh) (x : SDat s) (n nx : Nat) (z : SDat (backS s)) (ms : List Nat) (ey : List (Nat × HObj)) (nx2 : Nat), fromA hp (backS s) (endAP s x n) nx = some ⟨z, ms, ey, nx2⟩ →
    (rootsA s n).length = nn (backS s) ∧ ∀ (j k : Nat), (rootsA s n)[j]? = some (some k) → ms[j]? = some k ∧ n ≤ k ∧ k < n + nn s
 | .d t, x, n, nx, z, ms, ey, nx2, h => ⟨rfl, fun j k hj => by simp [rootsA] at hj⟩
 | .nilp, x, n, nx, z, ms, ey, nx2, h => ⟨rfl, fun j k hj => by simp [rootsA] at hj⟩
 | .nils, x, n, nx, z, ms, ey, nx2, h => ⟨rfl, fun j k hj => by simp [rootsA] at hj⟩
 | .nil, x, n, nx, z, ms, ey, nx2, h => ⟨rfl, fun j k hj => by simp [rootsA] at hj⟩
 | .spare t, x, n, nx, z, ms, ey, nx2, h => ⟨rfl, fun j k hj => by simp [rootsA] at hj⟩
 | .take t, x, n, nx, z, ms, ey, nx2, h => ⟨rfl, fun j k hj => by simp [rootsA] at hj⟩
 | .row t, x, n, nx, z, ms, ey, nx2, h => by
  refine ⟨rfl, fun j k hj => ?_⟩
  change fromA hp (.row t) (.ref n) nx = some ⟨z, ms, ey, nx2⟩ at h
  unfold fromA at h
  dsimp only at h
  split at h
  · split at h
    · simp only [Option.some.injEq, Fr.mk.injEq] at h; obtain ⟨rfl, rfl, rfl, rfl⟩ := h
      cases j with
      | zero => simp [rootsA] at hj; subst hj; exact ⟨rfl, Nat.le_refl _, by simp [nn]⟩
      | succ j => simp [rootsA] at hj
    · cases h
  · cases h
 | .map a b, x, n, nx, z, ms, ey, nx2, h => by
  refine ⟨rfl, fun j k hj => ?_⟩
  change fromA hp (.map a b) (.ref n) nx = some ⟨z, ms, ey, nx2⟩ at h
  unfold fromA at h
  dsimp only at h
  split at h
  · split at h
    · simp only [Option.some.injEq, Fr.mk.injEq] at h; obtain ⟨rfl, rfl, rfl, rfl⟩ := h
      cases j with
      | zero => simp [rootsA] at hj; subst hj; exact ⟨rfl, Nat.le_refl _, by simp [nn]⟩
      | succ j => simp [rootsA] at hj
    · cases h
  · cases h
 | .ob κ, x, n, nx, z, ms, ey, nx2, h => by
  refine ⟨rfl, fun j k hj => ?_⟩
  change fromA hp (.ob κ) (.ref n) nx = some ⟨z, ms, ey, nx2⟩ at h
  unfold fromA at h
  dsimp only at h
  split at h
  · split at h
    · simp only [Option.some.injEq, Fr.mk.injEq] at h; obtain ⟨rfl, rfl, rfl, rfl⟩ := h
      cases j with
      | zero => simp [rootsA] at hj; subst hj; exact ⟨rfl, Nat.le_refl _, by simp [nn]⟩
      | succ j => simp [rootsA] at hj
    · cases h
  · cases h
 | .box cs, x, n, nx, z, ms, ey, nx2, h => by
  refine ⟨by simp [rootsA, backS, nn], fun j k hj => ?_⟩
  change fromA hp (.box cs) (.loc n 0) nx = some ⟨z, ms, ey, nx2⟩ at h
  have key : ∃ l, ms = n :: l := by
   unfold fromA at h
   split at h
   · rename_i heq
     cases heq
     split at h
     · split at h
       · simp only [Option.some.injEq, Fr.mk.injEq] at h; obtain ⟨rfl, rfl, rfl, rfl⟩ := h
         exact ⟨_, rfl⟩
       · cases h
     · cases h
   · cases h
  obtain ⟨l, rfl⟩ := key
  cases j with
  | zero => simp [rootsA] at hj; subst hj; exact ⟨rfl, Nat.le_refl _, by simp [nn]⟩
  | succ j => simp [rootsA, List.getElem?_replicate] at hj
 | .clos f cs, x, n, nx, z, ms, ey, nx2, h => by
  change fromA hp (.clos f (backS cs)) (.clos f (endAP cs x n)) nx = some ⟨z, ms, ey, nx2⟩ at h
  unfold fromA at h
  dsimp only at h
  split at h
  · split at h
    · rename_i y ys ey1 nx1 hy
      simp only [Option.some.injEq, Fr.mk.injEq] at h; obtain ⟨rfl, rfl, rfl, rfl⟩ := h
      exact roots_spec cs x n nx _ _ _ _ hy
    · cases h
  · cases h
 | .cons a b, x, n, nx, z, ms, ey, nx2, h => by
  change fromA hp (.cons (backS a) (backS b)) (.cons (endAP a x.1 n) (endAP b x.2 (n + nn a))) nx = some ⟨z, ms, ey, nx2⟩ at h
  unfold fromA at h
  dsimp only at h
  split at h
  · rename_i y ys ey1 nx1 hy
    split at h
    · rename_i w ws ey2 nx3 hw
      simp only [Option.some.injEq, Fr.mk.injEq] at h; obtain ⟨rfl, rfl, rfl, rfl⟩ := h
      obtain ⟨a1, a2⟩ := roots_spec a x.1 n nx y ys ey1 nx1 hy
      obtain ⟨b1, b2⟩ := roots_spec b x.2 (n + nn a) nx1 w ws ey2 _ hw
      have hla : ys.length = nn (backS a) := fromA_len hp _ _ _ _ _ _ _ hy
      refine ⟨by simp [rootsA, backS, nn, a1, b1], fun j k hj => ?_⟩
      simp only [rootsA] at hj
      by_cases hlt : j < (rootsA a n).length
      · rw [List.getElem?_append_left hlt] at hj
        obtain ⟨h1, h2, h3⟩ := a2 j k hj
        refine ⟨by rw [List.getElem?_append_left (List.getElem?_eq_some_iff.1 h1).1]; exact h1, h2, by simp only [nn]; omega⟩
      · rw [List.getElem?_append_right (by omega)] at hj
        obtain ⟨h1, h2, h3⟩ := b2 _ k hj
        refine ⟨by rw [List.getElem?_append_right (by omega), hla, ← a1]; exact h1, by omega, by simp only [nn]; omega⟩
    · cases h
  · cases h
end Go.Gv

/- A call of a function that keeps its contract. -/
namespace Go.Gv
open Go
theorem nodup_at : ∀ {l : List Nat}, l.Nodup → ∀ {i j m : Nat}, l[i]? = some m → l[j]? = some m → i = j
 | [], _, i, j, m, h, _ => by simp at h
 | a :: l, hn, 0, 0, m, _, _ => rfl
 | a :: l, hn, 0, j + 1, m, h, h' => by
  simp at h; subst h
  exact ((List.nodup_cons.1 hn).1 (List.mem_of_getElem? (by simpa using h'))).elim
 | a :: l, hn, i + 1, 0, m, h, h' => by
  simp at h'; subst h'
  exact ((List.nodup_cons.1 hn).1 (List.mem_of_getElem? (by simpa using h))).elim
 | a :: l, hn, i + 1, j + 1, m, h, h' => by
  have : i = j := nodup_at (List.nodup_cons.1 hn).2 (m := m) (by simpa using h) (by simpa using h')
  rw [this]
theorem mem_keys {l : List (Nat × HObj)} {h : Nat} (hk : h ∈ keysH l) : ∃ o, (h, o) ∈ l := by
 obtain ⟨⟨a, o⟩, hm, rfl⟩ := List.mem_map.1 hk
 exact ⟨o, hm⟩
theorem keys_mem {l : List (Nat × HObj)} {h : Nat} {o : HObj} (hm : (h, o) ∈ l) : h ∈ keysH l := List.mem_map.2 ⟨(h, o), hm, rfl⟩
theorem take_in {C : Ctx} {hp : Nat → HObj} {β : Asg} {G : GW} (H : HInv C hp β G) {nx : Nat} (hfr : ∀ n, nx ≤ n → hp n = .none) {s : Sh} {X : AP} {x : SDat s} {ns : List Nat} {ex : List (Nat × HObj)} {nx1 : Nat}
    (hfa : fromA hp s X nx = some ⟨x, ns, ex, nx1⟩) : ∃ βx, HInv C (hset hp ex) βx G ∧ β.le βx ∧ Carried (hset hp ex) βx β G s X x ns ∧ nx ≤ nx1 ∧ (∀ h ∈ ns, h < nx1 ∧ hset hp ex h ≠ .none) ∧ (∀ n, nx1 ≤ n → hset hp ex n = .none) ∧
     (∀ h o, (h, o) ∈ ex → h ∈ ns) ∧ ns.length = nn s ∧ (∀ h, hp h ≠ .none → βx h = β h ∧ hset hp ex h = hp h) ∧ (∀ h o, (h, o) ∈ ex → βx h = some (.slice none 0 0) ∧ hset hp ex h = o) := by
 obtain ⟨e1, e2, e3, e4⟩ := fromA_ex s X nx x ns ex nx1 hfa
 obtain ⟨βx, Hx, lx, hx1, hx2⟩ := HInv.ext ex H e2 (fun h o hm => ⟨hfr h (e3 h o hm).1, (e3 h o hm).2.2⟩)
 have hin : ∀ h ∈ keysH ex, hset hp ex h ≠ .none := fun h hk => by
  obtain ⟨o, hm⟩ := mem_keys hk
  rw [hset_nodup e2 hm]
  rcases (e3 h o hm).2.2 with ⟨t, rfl⟩ | ⟨t, rfl⟩ <;> simp
 have hold : ∀ h, hp h ≠ .none → βx h = β h ∧ hset hp ex h = hp h := fun h hne => by
  have hnk : h ∉ keysH ex := fun hk => by
   obtain ⟨o, hm⟩ := mem_keys hk
   exact hne (hfr h (e3 h o hm).1)
  exact ⟨hx2 h hnk, hset_not hnk⟩
 have hexs : ∀ h o, (h, o) ∈ ex → βx h = some (.slice none 0 0) ∧ hset hp ex h = o := fun h o hm => ⟨hx1 h o hm, hset_nodup e2 hm⟩
 refine ⟨βx, Hx, lx, fromA_trans H.hs hold s X nx x ns ex nx1 hfa hexs, e1, fun h hm => ?_, fun n hn => ?_, ?_, fromA_len hp s X nx x ns ex nx1 hfa, hold, hexs⟩
 · rcases e4 h hm with hne | hk
   · have hlt : h < nx := by
      rcases Nat.lt_or_ge h nx with hl | hl
      · exact hl
      · exact (hne (hfr h hl)).elim
     refine ⟨by omega, ?_⟩
     have hnk : h ∉ keysH ex := fun hk => by
      obtain ⟨o, hm⟩ := mem_keys hk
      exact hne (hfr h (e3 h o hm).1)
     rw [hset_not hnk]; exact hne
   · obtain ⟨o, hm⟩ := mem_keys hk
     exact ⟨(e3 h o hm).2.1, hin h hk⟩
 · have hnk : n ∉ keysH ex := fun hk => by
    obtain ⟨o, hm⟩ := mem_keys hk
    have := (e3 n o hm).2.1; omega
   rw [hset_not hnk]; exact hfr n (by omega)
 · exact exNames s X nx x ns ex nx1 hfa
where
 exNames {hp : Nat → HObj} : ∀ (s : Sh) (X : AP) (nx : Nat) (x : SDat s) (ns : List Nat) (ex : List (Nat × HObj)) (nx' : Nat), fromA hp s X nx = some ⟨x, ns, ex, nx'⟩ → ∀ h o, (h, o) ∈ ex → h ∈ ns := by
  intro s
  induction s with
  | d t =>
   intro X nx x ns ex nx' h
   unfold fromA at h
   split at h
   · simp only [Option.some.injEq, Fr.mk.injEq] at h; obtain ⟨rfl, rfl, rfl, rfl⟩ := h; exact fun _ _ hm => by cases hm
   · cases h
  | row t =>
   intro X nx x ns ex nx' h
   unfold fromA at h
   split at h
   · split at h
     · split at h
       · simp only [Option.some.injEq, Fr.mk.injEq] at h; obtain ⟨rfl, rfl, rfl, rfl⟩ := h; exact fun _ _ hm => by cases hm
       · cases h
     · cases h
   · simp only [Option.some.injEq, Fr.mk.injEq] at h; obtain ⟨rfl, rfl, rfl, rfl⟩ := h
     exact fun _ _ hm => by rw [List.mem_singleton] at hm; cases hm; simp
   · cases h
  | take t =>
   intro X nx x ns ex nx' h
   unfold fromA at h
   split at h
   · split at h
     · split at h
       · simp only [Option.some.injEq, Fr.mk.injEq] at h; obtain ⟨rfl, rfl, rfl, rfl⟩ := h; exact fun _ _ hm => by cases hm
       · cases h
     · cases h
   · simp only [Option.some.injEq, Fr.mk.injEq] at h; obtain ⟨rfl, rfl, rfl, rfl⟩ := h
     exact fun _ _ hm => by rw [List.mem_singleton] at hm; cases hm; simp
   · cases h
  | spare t =>
   intro X nx x ns ex nx' h
   unfold fromA at h
   split at h
   · split at h
     · split at h
       · simp only [Option.some.injEq, Fr.mk.injEq] at h; obtain ⟨rfl, rfl, rfl, rfl⟩ := h; exact fun _ _ hm => by cases hm
       · cases h
     · cases h
   · simp only [Option.some.injEq, Fr.mk.injEq] at h; obtain ⟨rfl, rfl, rfl, rfl⟩ := h
     exact fun _ _ hm => by rw [List.mem_singleton] at hm; cases hm; simp
   · cases h
  | map k v =>
   intro X nx x ns ex nx' h
   unfold fromA at h
   split at h
   · split at h
     · split at h
       · simp only [Option.some.injEq, Fr.mk.injEq] at h; obtain ⟨rfl, rfl, rfl, rfl⟩ := h; exact fun _ _ hm => by cases hm
       · cases h
     · cases h
   · cases h
  | ob κ =>
   intro X nx x ns ex nx' h
   unfold fromA at h
   split at h
   · split at h
     · split at h
       · simp only [Option.some.injEq, Fr.mk.injEq] at h; obtain ⟨rfl, rfl, rfl, rfl⟩ := h; exact fun _ _ hm => by cases hm
       · cases h
     · cases h
   · cases h
  | box cs ih =>
   intro X nx x ns ex nx' h
   unfold fromA at h
   split at h
   · split at h
     · split at h
       · rename_i hy
         simp only [Option.some.injEq, Fr.mk.injEq] at h; obtain ⟨rfl, rfl, rfl, rfl⟩ := h
         exact fun h o hm => List.mem_cons_of_mem _ (ih _ _ _ _ _ _ hy h o hm)
       · cases h
     · cases h
   · cases h
  | clos f cs ih =>
   intro X nx x ns ex nx' h
   unfold fromA at h
   split at h
   · split at h
     · split at h
       · rename_i hy
         simp only [Option.some.injEq, Fr.mk.injEq] at h; obtain ⟨rfl, rfl, rfl, rfl⟩ := h
         exact ih _ _ _ _ _ _ hy
       · cases h
     · cases h
   · cases h
  | nilp =>
   intro X nx x ns ex nx' h
   unfold fromA at h
   split at h
   · simp only [Option.some.injEq, Fr.mk.injEq] at h; obtain ⟨_, rfl, rfl, rfl⟩ := h; exact fun _ _ hm => by cases hm
   · cases h
  | nils =>
   intro X nx x ns ex nx' h
   unfold fromA at h
   split at h
   · simp only [Option.some.injEq, Fr.mk.injEq] at h; obtain ⟨_, rfl, rfl, rfl⟩ := h; exact fun _ _ hm => by cases hm
   · cases h
  | nil =>
   intro X nx x ns ex nx' h
   unfold fromA at h
   split at h
   · simp only [Option.some.injEq, Fr.mk.injEq] at h; obtain ⟨_, rfl, rfl, rfl⟩ := h; exact fun _ _ hm => by cases hm
   · cases h
  | cons a b iha ihb =>
   intro X nx x ns ex nx' h
   unfold fromA at h
   split at h
   · split at h
     · rename_i hy
       split at h
       · rename_i hz
         simp only [Option.some.injEq, Fr.mk.injEq] at h; obtain ⟨rfl, rfl, rfl, rfl⟩ := h
         intro h o hm
         rcases List.mem_append.1 hm with hm | hm
         · exact List.mem_append_left _ (iha _ _ _ _ _ _ hy h o hm)
         · exact List.mem_append_right _ (ihb _ _ _ _ _ _ hz h o hm)
       · cases h
     · cases h
   · cases h
theorem canon_inv {C : Ctx} {hpx : Nat → HObj} {βx β : Asg} {G : GW} (Hx : HInv C hpx βx G) {s : Sh} {X : AP} {x : SDat s} {ns : List Nat} (c : Carried hpx βx β G s X x ns) (hnd : ns.Nodup) :
    HInv { G0 := G, F0 := fun b i => ∃ h v, h ∈ ns ∧ βx h = some v ∧ fpc (hpx h) v b i, Fo0 := fun b => ∃ h v, h ∈ ns ∧ βx h = some v ∧ fpo (hpx h) v b, glob := C.glob, N := C.N } (canon s x) (fun k => (ns[k]?).bind βx) G := by
 obtain ⟨_, _, _, c4⟩ := c.go (fun k => k) 0 (fun k => (ns[k]?).bind βx) (fun k h hk => by simp [hk])
 have hlen := objsA_len (fun k => k) s x 0
 have hob : ∀ k h, ns[k]? = some h → ∃ o v, canon s x k = o ∧ βx h = some v ∧ ObjOK (fun k => (ns[k]?).bind βx) G hpx v h o := fun k h hk => by
  have hlt : k < (objsA (fun k => k) s x 0).length := by rw [hlen, ← c.len]; exact (List.getElem?_eq_some_iff.1 hk).1
  obtain ⟨v, hv, ho⟩ := c4 k h _ hk (List.getElem?_eq_getElem hlt)
  exact ⟨_, v, canon_at s x (List.getElem?_eq_getElem hlt), hv, ho⟩
 have hsrc : ∀ h v, (ns[h]?).bind βx = some v → ∃ m, ns[h]? = some m ∧ βx m = some v ∧ (∀ b i, fpc (canon s x h) v b i → fpc (hpx m) v b i) ∧ (∀ b, fpo (canon s x h) v b → fpo (hpx m) v b) := fun k v hv => by
  rw [Option.bind_eq_some_iff] at hv
  obtain ⟨m, hm, hv⟩ := hv
  obtain ⟨o, v', ho, hv', hok⟩ := hob k m hm
  rw [hv] at hv'; cases hv'
  exact ⟨m, hm, hv, fun b i hf => hok.fc b i (by rw [← ho]; exact hf), fun b hf => hok.fo b (by rw [← ho]; exact hf)⟩
 have hh : HeapOK (canon s x) (fun k => (ns[k]?).bind βx) G := Hx.heap.rebind _ _ (fun k m => ns[k]? = some m) (fun k hn => by
     cases hk : ns[k]? with
     | none => rfl
     | some m => obtain ⟨o, v, ho, _, hok⟩ := hob k m hk; exact (hok.ne (ho.symm.trans hn)).elim) (fun k hn => by
     cases hk : ns[k]? with
     | none => exact (hn (canon_out s x (by rw [← c.len]; rcases Nat.lt_or_ge k ns.length with h | h; · rw [List.getElem?_eq_getElem h] at hk; cases hk
                                            · exact h))).elim
     | some m =>
      obtain ⟨o, v, ho, hv, hok⟩ := hob k m hk
      refine ⟨v, by simp [hv], ?_⟩
      rw [ho]; exact hok.sat) (fun k v hv _ => by
     obtain ⟨m, h1, h2, h3, h4⟩ := hsrc k v hv
     exact ⟨m, h1, h2, h3, h4⟩) (fun h h' m e e' => by
     exact nodup_at hnd e e')
 refine ⟨hh, Step.refl _ _ _, fun k v hv b i hf => ?_, fun k v hv b hf => ?_, fun g t x h => ?_⟩
 · obtain ⟨m, h1, h2, h3, _⟩ := hsrc k v hv
   exact .inl ⟨m, v, List.mem_of_getElem? h1, h2, h3 b i hf⟩
 · obtain ⟨m, h1, h2, _, h4⟩ := hsrc k v hv
   exact .inl ⟨m, v, List.mem_of_getElem? h1, h2, h4 b hf⟩
 · exact Hx.glob g t x h
structure Back (R : List (Option Nat)) (ns ms os : List Nat) (nx nb : Nat) : Prop where
 root : ∀ (j k : Nat), R[j]? = some (some k) → ms[j]? = some k ∧ k < ns.length
 len : R.length = nb
 mlen : ms.length = nb
 nlt : ∀ h ∈ ns, h < nx
 nnd : ns.Nodup
 snd : (os ++ ms).Nodup
theorem nmBack_root {R : List (Option Nat)} {ns : List Nat} {nx j k : Nat} (h : R[j]? = some (some k)) : nmBack R ns nx j = ns.getD k 0 := by
 unfold nmBack; rw [List.getD_eq_getElem?_getD, h]; rfl
theorem nmBack_new {R : List (Option Nat)} {ns : List Nat} {nx j : Nat} (h : ∀ k, R[j]? ≠ some (some k)) : nmBack R ns nx j = nx + j := by
 unfold nmBack
 rw [List.getD_eq_getElem?_getD]
 cases hr : R[j]? with
 | none => rfl
 | some o =>
  cases o with
  | none => rfl
  | some k => exact (h k hr).elim
theorem getD_at {l : List Nat} {k : Nat} (h : k < l.length) : l[k]? = some (l.getD k 0) := by
 rw [List.getD_eq_getElem?_getD, List.getElem?_eq_getElem h]; rfl
noncomputable def β2of (βx β1 : Asg) (R : List (Option Nat)) (ms os : List Nat) (nx nb : Nat) : Asg := fun h =>
 if h < nx then βx h
 else if h < nx + nb then (match R.getD (h - nx) none with
  | some _ => none
  | none => (ms[h - nx]?).bind β1)
 else (os[h - nx - nb]?).bind β1
theorem give_back {C : Ctx} {hpx : Nat → HObj} {βx : Asg} {G : GW} (Hx : HInv C hpx βx G) {ns : List Nat} {nx nb : Nat} {C1 : Ctx} (hC : C1.G0 = G) (hF : ∀ b i, C1.F0 b i → ∃ h v, h ∈ ns ∧ βx h = some v ∧ fpc (hpx h) v b i) (hFo : ∀ b, C1.Fo0 b → ∃ h v, h ∈ ns ∧ βx h = some v ∧ fpo (hpx h) v b)
    {hp1 : Nat → HObj} {β1 : Asg} {G1 : GW} (H1 : HInv C1 hp1 β1 G1) {R : List (Option Nat)} {ms os : List Nat} (B : Back R ns ms os nx nb) (hfx : ∀ n, nx ≤ n → hpx n = .none) (hns : ∀ h ∈ ns, hpx h ≠ .none)
    (hkeep : ∀ k h v, ns[k]? = some h → βx h = some v → β1 k = some v) {s t : Sh} {z : SDat s} {y : SDat t} (hs : nn s = nb) (ht : os.length = nn t) {Xs Xt : AP} {βo : Asg} (c : Carried hp1 β1 βo G1 s Xs z ms) (d : Carried hp1 β1 βo G1 t Xt y os)
    (hp2 : Nat → HObj) (hp2e : ∀ h, hp2 h = hset hpx (intoH (nmBack R ns nx) s z 0 (intoH (fun k => nx + nb + k) t y 0 (deadL ns []))) h) :
    HInv C hp2 (β2of βx β1 R ms os nx nb) G1 ∧ βx.le (β2of βx β1 R ms os nx nb) ∧
     (∀ v, sat Xt βo G1 v → sat (intoA (fun k => nx + nb + k) t y 0) (β2of βx β1 R ms os nx nb) G1 v) ∧ (∀ l : List Value, satT Xt βo G1 l → satT (intoA (fun k => nx + nb + k) t y 0) (β2of βx β1 R ms os nx nb) G1 l) := by
 have hle : βx.le (β2of βx β1 R ms os nx nb) := fun h v e => by
  unfold β2of
  split
  · exact e
  · rename_i hlt
    rw [Hx.heap.no h (hfx h (by omega))] at e; cases e
 have agB : ∀ (j m : Nat), ms[j]? = some m → β2of βx β1 R ms os nx nb (nmBack R ns nx (0 + j)) = β1 m := fun j m hm => by
  rw [Nat.zero_add]
  have hj : j < nb := by rw [← B.mlen]; exact (List.getElem?_eq_some_iff.1 hm).1
  by_cases hr : ∃ k, R[j]? = some (some k)
  · obtain ⟨k, hr⟩ := hr
    obtain ⟨hmk, hk⟩ := B.root j k hr
    rw [hm] at hmk; cases hmk
    rw [nmBack_root hr]
    have hnk := getD_at hk
    have hmem := List.mem_of_getElem? hnk
    obtain ⟨v, hv, _⟩ := Hx.heap.sat _ (hns _ hmem)
    unfold β2of
    rw [if_pos (B.nlt _ hmem), hv, hkeep _ _ v hnk hv]
  · have hr' : ∀ k, R[j]? ≠ some (some k) := fun k e => hr ⟨k, e⟩
    rw [nmBack_new hr']
    unfold β2of
    rw [if_neg (by omega), if_pos (by omega), show nx + j - nx = j by omega, hm]
    have : R.getD j none = none := by
     rw [List.getD_eq_getElem?_getD]
     cases hrj : R[j]? with
     | none => rfl
     | some o =>
      cases o with
      | none => rfl
      | some k => exact (hr' k hrj).elim
    rw [this]; rfl
 have agO : ∀ (k m : Nat), os[k]? = some m → β2of βx β1 R ms os nx nb ((fun k => nx + nb + k) (0 + k)) = β1 m := fun k m hm => by
  show β2of βx β1 R ms os nx nb (nx + nb + (0 + k)) = β1 m
  unfold β2of
  rw [if_neg (by omega), if_neg (by omega), show nx + nb + (0 + k) - nx - nb = k by omega, hm]; rfl
 obtain ⟨_, _, _, c4⟩ := c.go (nmBack R ns nx) 0 _ agB
 obtain ⟨d1, _, d3, d4⟩ := d.go (fun k => nx + nb + k) 0 _ agO
 have hlB := objsA_len (nmBack R ns nx) s z 0
 have hlO := objsA_len (fun k => nx + nb + k) t y 0
 -- what the new heap holds
 have hview : ∀ h, (∃ j m v, ms[j]? = some m ∧ h = nmBack R ns nx j ∧ β1 m = some v ∧ ObjOK (β2of βx β1 R ms os nx nb) G1 hp1 v m (hp2 h) ∧ β2of βx β1 R ms os nx nb h = some v) ∨
     (∃ k m v, os[k]? = some m ∧ h = nx + nb + k ∧ β1 m = some v ∧ ObjOK (β2of βx β1 R ms os nx nb) G1 hp1 v m (hp2 h) ∧ β2of βx β1 R ms os nx nb h = some v) ∨
     (h ∈ ns ∧ hp2 h = .dead) ∨ (h ∉ ns ∧ hp2 h = hpx h ∧ (∀ j, j < nb → h ≠ nmBack R ns nx j) ∧ ∀ k, k < nn t → h ≠ nx + nb + k) := fun h => by
  rw [hp2e h, intoH_eq, intoH_eq]
  rcases hset_zipN_cases (nmBack R ns nx) hpx (objsA (nmBack R ns nx) s z 0) 0 (zipN (fun k => nx + nb + k) (objsA (fun k => nx + nb + k) t y 0) 0 (deadL ns [])) h with ⟨j, o, h1, h2, h3⟩ | ⟨h1, h2⟩
  · rw [Nat.zero_add] at h2
    have hj : j < ms.length := by rw [c.len, ← hlB]; exact (List.getElem?_eq_some_iff.1 h1).1
    have hm := getD_at hj
    obtain ⟨v, hv, ho⟩ := c4 j _ o hm h1
    refine .inl ⟨j, _, v, hm, h2, hv, ?_, ?_⟩
    · rw [h3]; exact ho
    · have := agB j _ hm
      rw [Nat.zero_add] at this
      rw [h2, this]; exact hv
  · rw [h2]
    have h1' : ∀ j, j < nb → h ≠ nmBack R ns nx j := fun j hj => by
     have := h1 j (by rw [hlB, hs]; exact hj)
     rwa [Nat.zero_add] at this
    rcases hset_zipN_cases (fun k => nx + nb + k) hpx (objsA (fun k => nx + nb + k) t y 0) 0 (deadL ns []) h with ⟨k, o, g1, g2, g3⟩ | ⟨g1, g2⟩
    · rw [Nat.zero_add] at g2
      have hk : k < os.length := by rw [ht, ← hlO]; exact (List.getElem?_eq_some_iff.1 g1).1
      have hm := getD_at hk
      obtain ⟨v, hv, ho⟩ := d4 k _ o hm g1
      refine .inr (.inl ⟨k, _, v, hm, g2, hv, ?_, ?_⟩)
      · rw [g3]; exact ho
      · have := agO k _ hm
        rw [Nat.zero_add] at this
        rw [g2]; exact this.trans hv
    · rw [g2, hset_deadL]
      by_cases hn : h ∈ ns
      · rw [if_pos hn]; exact .inr (.inr (.inl ⟨hn, rfl⟩))
      · rw [if_neg hn]
        refine .inr (.inr (.inr ⟨hn, rfl, h1', fun k hk => ?_⟩))
        have := g1 k (by rw [hlO]; exact hk)
        rwa [Nat.zero_add] at this
 refine ⟨?_, hle, d1, d3⟩
 refine Hx.frameR (R := ns) hC hF hFo H1 hp2 _ (fun h => h ∈ ns ∨ nx ≤ h) (fun h m => (∃ j, h = nmBack R ns nx j ∧ ms[j]? = some m) ∨ ∃ k, h = nx + nb + k ∧ os[k]? = some m) (fun h hm => .inl hm) (fun h hk => ?_) hle (fun h hk hn => ?_) (fun h hk hn => ?_) (fun h v hk hv ho => ?_) (fun h h' m hs hs' => ?_)
 · have hk1 : h ∉ ns := fun e => hk (.inl e)
   have hk2 : h < nx := by rcases Nat.lt_or_ge h nx with e | e; · exact e
                           · exact (hk (.inr e)).elim
   have hbe : β2of βx β1 R ms os nx nb h = βx h := by unfold β2of; rw [if_pos hk2]
   rcases hview h with ⟨j, m, v, hm, e, _⟩ | ⟨k, m, v, hm, e, _⟩ | ⟨e, _⟩ | ⟨_, e, _⟩
   · exfalso
     by_cases hr : ∃ k, R[j]? = some (some k)
     · obtain ⟨k, hr⟩ := hr
       rw [nmBack_root hr] at e
       exact hk1 (e ▸ List.mem_of_getElem? (getD_at (B.root j k hr).2))
     · rw [nmBack_new (fun k e => hr ⟨k, e⟩)] at e; omega
   · omega
   · exact (hk1 e).elim
   · exact ⟨e, hbe⟩
 · rcases hview h with ⟨j, m, v, hm, e, hv, ho, _⟩ | ⟨k, m, v, hm, e, hv, ho, _⟩ | ⟨_, e⟩ | ⟨hnn, e, f1, f2⟩
   · exact (ho.ne hn).elim
   · exact (ho.ne hn).elim
   · rw [hn] at e; cases e
   · have hge : nx ≤ h := hk.resolve_left hnn
     unfold β2of
     rw [if_neg (by omega)]
     split
     · rename_i hlt
       cases hr : R.getD (h - nx) none with
       | some k => rfl
       | none =>
        exfalso
        have hj : h - nx < nb := by omega
        refine f1 (h - nx) hj ?_
        rw [nmBack_new (fun k e => by rw [List.getD_eq_getElem?_getD, e] at hr; cases hr)]; omega
     · rename_i hlt
       have : os[h - nx - nb]? = none := by
        rw [List.getElem?_eq_none]
        rcases Nat.lt_or_ge (h - nx - nb) os.length with e | e
        · exact (f2 (h - nx - nb) (by rw [← ht]; exact e) (by omega)).elim
        · exact e
       rw [this]; rfl
 · rcases hview h with ⟨j, m, v, hm, e, hv, ho, hb⟩ | ⟨k, m, v, hm, e, hv, ho, hb⟩ | ⟨hm, e⟩ | ⟨hnn, e, _⟩
   · exact ⟨v, hb, ho.sat⟩
   · exact ⟨v, hb, ho.sat⟩
   · obtain ⟨v, hv, _⟩ := Hx.heap.sat h (hns h hm)
     exact ⟨v, hle h v hv, by rw [e]; trivial⟩
   · rw [e] at hn
     exact (hn (hfx h (hk.resolve_left hnn))).elim
 · rcases hview h with ⟨j, m, v', hm, e, hv', hok, hb⟩ | ⟨k, m, v', hm, e, hv', hok, hb⟩ | ⟨_, e⟩ | ⟨hnn, e, _⟩
   · rw [hv] at hb; cases hb
     exact ⟨m, .inl ⟨j, e, hm⟩, hv', hok.fc, hok.fo⟩
   · rw [hv] at hb; cases hb
     exact ⟨m, .inr ⟨k, e, hm⟩, hv', hok.fc, hok.fo⟩
   · rw [e] at ho
     rcases ho with ⟨b, i, hf⟩ | ⟨b, hf⟩ <;> cases v <;> cases hf
   · rw [e, hfx h (hk.resolve_left hnn)] at ho
     rcases ho with ⟨b, i, hf⟩ | ⟨b, hf⟩ <;> cases v <;> cases hf
 · rcases hs with ⟨j, e, hm⟩ | ⟨k, e, hm⟩ <;> rcases hs' with ⟨j', e', hm'⟩ | ⟨k', e', hm'⟩
   · have : j = j' := nodup_at (List.nodup_append.1 B.snd).2.1 hm hm'
     rw [e, e', this]
   · exact ((List.nodup_append.1 B.snd).2.2 m (List.mem_of_getElem? hm') m (List.mem_of_getElem? hm) rfl).elim
   · exact ((List.nodup_append.1 B.snd).2.2 m (List.mem_of_getElem? hm) m (List.mem_of_getElem? hm') rfl).elim
   · have : k = k' := nodup_at (List.nodup_append.1 B.snd).1 hm hm'
     rw [e, e', this]
end Go.Gv

/- A call of a function that keeps its contract goes the ways that the generator says. -/
namespace Go.Gv
open Go
theorem resV_sat {hp : Nat → HObj} {s : Sh} {L : List AP} {nx : Nat} {r : Fr (SDat s)} (h : fromA hp s (listA L) nx = some r) {y : SDat s} {β0 β : Asg} {G0 G : GW} {vs : List Value} (hL : satT (listA L) β0 G0 vs) {m : Nat}
    (hs : satT (intoA (fun k => m + k) s y 0) β G vs) : sat (resA s y m) β G (resV vs) := by
 rcases fromA_list h with ⟨rfl, rfl⟩ | ⟨a, b, X, L', rfl, rfl, nx', r', h'⟩
 · unfold intoA satT at hs
   subst hs
   unfold resA sat
   exact ⟨[], rfl, by unfold satT; rfl⟩
 · rcases fromA_list h' with ⟨rfl, rfl⟩ | ⟨a', b', X', L'', rfl, rfl, _⟩
   · unfold intoA at hs
     unfold satT at hs
     obtain ⟨v, l', rfl, h1, h2⟩ := hs
     unfold intoA satT at h2
     subst h2
     exact h1
   · unfold listA satT at hL
     obtain ⟨v, l', rfl, _, h2⟩ := hL
     unfold listA satT at h2
     obtain ⟨v', l'', rfl, _, _⟩ := h2
     show sat (.tup (intoA (fun k => m + k) (.cons a (.cons a' b')) y 0)) β G (.tuple (v :: v' :: l'').toArray)
     unfold sat
     exact ⟨_, rfl, hs⟩
theorem waysA_on {ro : Bool} {ins : Sh} (sel : Nat) (x : SDat ins) (ns : List Nat) (fz : List (Nat × HObj)) (nx nx1 : Nat) : ∀ (l : List (Alt ins)) (i j : Nat) (W : Way), (waysA ro sel x ns fz nx nx1 l i)[j]? = some W → W.on = (sel = i + j)
 | [], _, _, _, h => by simp [waysA] at h
 | B :: l, i, 0, W, h => by
  simp [waysA] at h; subst h; rfl
 | B :: l, i, j + 1, W, h => by
  have := waysA_on (ro := ro) sel x ns fz nx nx1 l (i + 1) j W (by simpa [waysA] using h)
  rw [this, show i + 1 + j = i + (j + 1) by omega]
theorem callA_on {P : Program} {gl : Glob} {f : FuncId} {S : Spec} (hS : SpecOK P gl f S) {hp : Nat → HObj} {nx : Nat} {args : List AP} {pre : Prop} {ws : List Way} (he : callA S hp nx args = some (pre, ws)) (hpre : pre) : ∃ (i : Nat) (W : Way), ws[i]? = some W ∧ W.on := by
 unfold callA at he
 dsimp only at he
 split at he
 · rename_i x ns ex nx1 hfa
   split at he
   · simp only [Option.some.injEq, Prod.mk.injEq] at he; obtain ⟨rfl, rfl⟩ := he
     have hpre : S.pre x := by
      unfold preA at hpre
      split at hpre
      · exact hpre
      · exact hpre.1
     obtain ⟨A, hA, _⟩ := hS.2 x hpre
     exact ⟨_, _, waysA_get (S.sel x) x ns _ nx nx1 S.alts 0 (S.sel x) A hA, by show S.sel x = 0 + S.sel x; omega⟩
   · cases he
 · cases he
theorem idR_len : ∀ (n k : Nat), (idR n k).length = n
 | 0, _ => rfl
 | n + 1, k => by simp [idR, idR_len n (k + 1)]
theorem idR_at : ∀ (n k j m : Nat), (idR n k)[j]? = some (some m) → m = k + j ∧ j < n
 | 0, _, j, m, h => by simp [idR] at h
 | n + 1, k, 0, m, h => by simp [idR] at h; omega
 | n + 1, k, j + 1, m, h => by
  have := idR_at n (k + 1) j m (by simpa [idR] using h)
  omega
theorem idR_get : ∀ (n k j : Nat), j < n → (idR n k)[j]? = some (some (k + j))
 | 0, _, j, h => by omega
 | n + 1, k, 0, _ => by simp [idR]
 | n + 1, k, j + 1, h => by
  have := idR_get n (k + 1) j (by omega)
  simp only [idR, List.getElem?_cons_succ, this]
  congr 2; omega
theorem idB_spec {n : Nat} : ∀ {ms : List Nat} {k : Nat}, idB n k ms = true → k + ms.length = n ∧ ∀ (j m : Nat), ms[j]? = some m → m = k + j
 | [], k, h => ⟨by simpa [idB] using Nat.eq_of_beq_eq_true h, fun j m hm => by simp at hm⟩
 | a :: r, k, h => by
  unfold idB at h
  split at h
  · rename_i e
    have e := Nat.eq_of_beq_eq_true e
    obtain ⟨h1, h2⟩ := idB_spec h
    refine ⟨by simp; omega, fun j m hm => ?_⟩
    cases j with
    | zero => simp at hm; omega
    | succ j => have := h2 j m (by simpa using hm); omega
  · cases h
theorem sameP_mem {hp : Nat → HObj} : ∀ {l : List (Nat × HObj)}, sameP hp l → ∀ h o, (h, o) ∈ l → hp h = o
 | [], _, _, _, h => by cases h
 | (a, b) :: r, hs, h, o, hm => by
  rcases List.mem_cons.1 hm with e | hm
  · cases e; exact hs.1
  · exact sameP_mem hs.2 h o hm
theorem hset_same {hp : Nat → HObj} : ∀ {l : List (Nat × HObj)} {r : List (Nat × HObj)}, (∀ h o, (h, o) ∈ l → hset hp r h = o) → ∀ h, hset hp (l ++ r) h = hset hp r h
 | [], r, _, h => rfl
 | (a, b) :: l, r, hs, h => by
  show (if h = a then b else hset hp (l ++ r) h) = _
  split
  · rename_i e; subst e; exact (hs h b List.mem_cons_self).symm
  · exact hset_same (fun h o hm => hs h o (List.mem_cons_of_mem _ hm)) h
def SpecsOK (P : Program) (gl : Glob) (F : Specs) (nz : Bool) : Prop := ∀ g S, S ∈ F g → SpecOK P gl g S ∧ (S.noisy = true → nz = true)
structure GlobIs (C : Ctx) (c : Cf) : Prop where
 eq : C.glob = c.gl
 nz : c.nz = true → C.G0.nz
theorem callAny_of {hp : Nat → HObj} {nx : Nat} {args : List AP} {r : Prop × List Way} : ∀ {l : List Spec}, callAny hp nx args l = some r → ∃ S ∈ l, callA S hp nx args = some r
 | [], h => by cases h
 | S :: l, h => by
  unfold callAny at h
  split at h
  · rename_i o ho
    simp only [Option.some.injEq] at h; subst h
    exact ⟨S, List.mem_cons_self, ho⟩
  · obtain ⟨S', hm, hs⟩ := callAny_of h
    exact ⟨S', List.mem_cons_of_mem _ hm, hs⟩
def fullW (ro : Bool) {ins : Sh} (A : Alt ins) (x : SDat ins) (ns : List Nat) (fz : List (Nat × HObj)) (nx1 : Nat) : List (Nat × HObj) :=
 intoH (nmBack (bkRoots ro ins) ns nx1) (bk ro ins) (bkUpd ro A x) 0 (intoH (fun k => nx1 + nn (bk ro ins) + k) A.outs (A.res x) 0 (deadL ns fz))
theorem fullW_eq (ro : Bool) {ins : Sh} (A : Alt ins) (on : Prop) (x : SDat ins) (ns : List Nat) (fz : List (Nat × HObj)) (nx nx1 : Nat) (hp : Nat → HObj) (hl : ns.length = nn ins) (hlt : ∀ h ∈ ns, h < nx1)
    (hs : ro = true → sameP (hset hp fz) (intoH (nmBack (idR (nn ins) 0) ns nx1) ins x 0 [])) : hset hp (fullW ro A x ns fz nx1) = hset hp (wayA ro A on x ns fz nx nx1).hw := by
 cases ro with
 | false => rfl
 | true =>
  have hs := hs rfl
  funext h
  show hset hp (intoH (nmBack (idR (nn ins) 0) ns nx1) ins x 0 (intoH (fun k => nx1 + nn ins + k) A.outs (A.res x) 0 (deadL ns fz))) h = hset hp (intoH (fun k => nx1 + nn ins + k) A.outs (A.res x) 0 fz) h
  rw [intoH_eq, intoH_eq, intoH_eq]
  rw [intoH_eq] at hs
  have hln := objsA_len (nmBack (idR (nn ins) 0) ns nx1) ins x 0
  have hnm : ∀ k, k < nn ins → nmBack (idR (nn ins) 0) ns nx1 k ∈ ns := fun k hk => by
   have := idR_get (nn ins) 0 k hk
   rw [Nat.zero_add] at this
   rw [nmBack_root this]
   exact List.mem_of_getElem? (getD_at (by omega))
  have hnew : ∀ k, nx1 + nn ins + k ∉ ns := fun k hk => by have := hlt _ hk; omega
  rcases hset_zipN_cases (nmBack (idR (nn ins) 0) ns nx1) hp (objsA (nmBack (idR (nn ins) 0) ns nx1) ins x 0) 0 (zipN (fun k => nx1 + nn ins + k) (objsA (fun k => nx1 + nn ins + k) A.outs (A.res x) 0) 0 (deadL ns fz)) h with ⟨k, o, h1, h2, h3⟩ | ⟨h1, h2⟩
  · rw [Nat.zero_add] at h2
    have hk : k < nn ins := by rw [← hln]; exact (List.getElem?_eq_some_iff.1 h1).1
    have hmem := hnm k hk
    rw [h3]
    have hin : (h, o) ∈ zipN (nmBack (idR (nn ins) 0) ns nx1) (objsA (nmBack (idR (nn ins) 0) ns nx1) ins x 0) 0 [] := by
     have := zipN_mem (nmBack (idR (nn ins) 0) ns nx1) _ 0 [] k o h1
     rw [Nat.zero_add] at this
     rw [h2]; exact this
    rw [← sameP_mem hs h o hin]
    rw [hset_zipN, hset_zip_not]
    intro j hj e
    rw [Nat.zero_add] at e
    rw [h2] at e
    exact hnew j (e ▸ hmem)
  · rw [h2, hset_zipN _ hp _ 0 (deadL ns fz), hset_zipN _ hp _ 0 fz]
    rcases hset_zipN_cases (fun k => nx1 + nn ins + k) (hset hp (deadL ns fz)) (objsA (fun k => nx1 + nn ins + k) A.outs (A.res x) 0) 0 [] h with ⟨k, o, g1, g2, g3⟩ | ⟨g1, g2⟩
    · rw [g3]
      rw [g2]
      exact (hset_zip_at (fun k => nx1 + nn ins + k) (hset hp fz) _ 0 (fun i j _ _ e => by
       have e : nx1 + nn ins + (0 + i) = nx1 + nn ins + (0 + j) := e
       omega) k o g1).symm
    · rw [g2, hset_zip_not _ (hset hp fz) _ _ _ g1]
      show hset hp (deadL ns fz) h = hset hp fz h
      rw [hset_deadL]
      rw [if_neg]
      intro hm
      obtain ⟨k, hk⟩ := List.getElem?_of_mem hm
      have hk' : k < nn ins := by rw [← hl]; exact (List.getElem?_eq_some_iff.1 hk).1
      refine h1 k (by rw [hln]; exact hk') ?_
      have := idR_get (nn ins) 0 k hk'
      rw [Nat.zero_add] at this
      rw [Nat.zero_add, nmBack_root this, List.getD_eq_getElem?_getD, hk]; rfl
theorem bk_roots {hp : Nat → HObj} {ro : Bool} {s : Sh} {x : SDat s} {nx : Nat} {z : SDat (bk ro s)} {ms : List Nat} {ey : List (Nat × HObj)} {nx2 : Nat} (h : fromA hp (bk ro s) (bkEnd ro s x) nx = some ⟨z, ms, ey, nx2⟩) (hid : idOK ro (nn s) ms = true) :
    (bkRoots ro s).length = nn (bk ro s) ∧ ∀ (j k : Nat), (bkRoots ro s)[j]? = some (some k) → ms[j]? = some k ∧ 0 ≤ k ∧ k < 0 + nn s := by
 cases ro with
 | false => exact roots_spec s x 0 nx z ms ey nx2 h
 | true =>
  obtain ⟨h1, h2⟩ := idB_spec (show idB (nn s) 0 ms = true from hid)
  refine ⟨idR_len _ _, fun j k hj => ?_⟩
  obtain ⟨rfl, hlt⟩ := idR_at _ _ _ _ hj
  have hj' : j < ms.length := by omega
  have := h2 j _ (List.getElem?_eq_getElem hj')
  exact ⟨by rw [List.getElem?_eq_getElem hj', this], by omega, by omega⟩
theorem callA_run {P : Program} {gl : Glob} {f : FuncId} {S : Spec} (hS : SpecOK P gl f S) {C : Ctx} {hp : Nat → HObj} {nx : Nat} {β : Asg} {G : GW} {args : List AP} {vals : List Value} {pre : Prop} {ws : List Way}
    (he : callA S hp nx args = some (pre, ws)) (hpre : pre) (H : HInv C hp β G) (hfr : ∀ n, nx ≤ n → hp n = .none) (hg : C.glob = gl) (hz : S.noisy = true → C.G0.nz) (ha : satT (listA args) β G vals) :
    ∃ (i : Nat) (W : Way), ws[i]? = some W ∧ W.on ∧ (∀ (j : Nat) (W' : Way), ws[j]? = some W' → (ws.length ≠ 1 → W'.on) → W' = W) ∧ Calls P f vals.toArray G.w (fun e w' => match e with
     | .returned v => ∃ β' G', G'.w = w' ∧ HInv C (hset hp W.hw) β' G' ∧ β.le β' ∧ G.le G' ∧ sat W.ap β' G' v
     | _ => False) := by
 unfold callA at he
 generalize hfz : frzArgs hp S.ins args = fz at he
 dsimp only at he
 split at he
 · rename_i x ns ex nx1 hfa
   split at he
   · rename_i hnd
     have hnd := nodupN_iff.1 hnd
     simp only [Option.some.injEq, Prod.mk.injEq] at he; obtain ⟨rfl, rfl⟩ := he
     have hsame : S.ro = true → sameP (hset hp fz) (intoH (nmBack (idR (nn S.ins) 0) ns nx1) S.ins x 0 []) := fun hr => by
      unfold preA at hpre
      rw [hr] at hpre
      exact hpre.2
     have hpre : S.pre x := by
      unfold preA at hpre
      split at hpre
      · exact hpre
      · exact hpre.1
     have hspec : ∀ h o, (h, o) ∈ fz → frzO (hp h) = some o := fun h o hm => frzArgs_spec S.ins args h o (by rw [hfz]; exact hm)
     obtain ⟨G1, e1, l1, H1⟩ := HInv.freezeL fz H hspec
     have hfr1 : ∀ n, nx ≤ n → hset hp fz n = .none := fun n hn => by
      by_cases hk : n ∈ keysH fz
      · obtain ⟨o, hm⟩ := mem_keys hk
        have e := hspec n o hm
        rw [hfr n hn] at e; cases e
      · rw [hset_not hk]; exact hfr n hn
     obtain ⟨βx, Hx, lx, car, le1, hns, hfx, hexn, hlen, _, _⟩ := take_in H1 hfr1 hfa
     obtain ⟨A, hA, hcall⟩ := hS.2 x hpre
     have hcan := canon_inv Hx car hnd
     obtain ⟨_, _, c3, _⟩ := car.go (fun k => k) 0 (fun k => (ns[k]?).bind βx) (fun k h hk => by simp [hk])
     have hget := waysA_get (ro := S.ro) (S.sel x) x ns fz nx nx1 S.alts 0 (S.sel x) A hA
     refine ⟨S.sel x, _, hget, by show S.sel x = 0 + S.sel x; omega, fun j W' hj hon => ?_, ?_⟩
     · have hlt := (List.getElem?_eq_some_iff.1 hj).1
       have hlt0 := (List.getElem?_eq_some_iff.1 hget).1
       have hjs : j = S.sel x := by
        by_cases h1 : (waysA S.ro (S.sel x) x ns fz nx nx1 S.alts 0).length = 1
        · omega
        · have := hon h1
          have hw := waysA_on (ro := S.ro) (S.sel x) x ns fz nx nx1 S.alts 0 j W' hj
          rw [hw] at this; omega
       rw [hjs, hget] at hj
       exact (Option.some.inj hj).symm
     have hc := hcall { G0 := G1, F0 := fun b i => ∃ h v, h ∈ ns ∧ βx h = some v ∧ fpc (hset (hset hp fz) ex h) v b i, Fo0 := fun b => ∃ h v, h ∈ ns ∧ βx h = some v ∧ fpo (hset (hset hp fz) ex h) v b, glob := C.glob, N := C.N } _ G1 vals hg (fun h => by show G1.nz; rw [H1.step.nz]; exact hz h) hcan (c3 vals (satT.mono _ ha (Asg.le_refl β) l1))
     rw [← e1]
     refine Calls.mono hc fun e w' hr => ?_
     cases e with
     | panicked _ => exact hr.elim
     | outgrown => exact hr.elim
     | returned v =>
      obtain ⟨hp', β', G', L, vs, nx', y, os, ex', nx1', z, ms, ey, nx2, rfl, H2, lb, lg, rfl, hL, hfr', hfo, hfb, hnd2, hy, hz, hid⟩ := hr.ex
      have hnd2 := nodupN_iff.1 hnd2
      have hcomb : fromA hp' (.cons A.outs (bk S.ro S.ins)) (.cons (listA L) (bkEnd S.ro S.ins x)) nx' = some ⟨(y, z), os ++ ms, ex' ++ ey, nx2⟩ := by
       unfold fromA; simp only [hfo, hfb]
      obtain ⟨β'x, H3, lb3, _, _, _, _, _, _, hold3, hex3⟩ := take_in H2 hfr' hcomb
      have car1 := fromA_trans H2.hs hold3 A.outs (listA L) nx' y os ex' nx1' hfo (fun h o hm => hex3 h o (List.mem_append_left _ hm))
      have car2 := fromA_trans H2.hs hold3 (bk S.ro S.ins) (bkEnd S.ro S.ins x) nx1' z ms ey nx2 hfb (fun h o hm => hex3 h o (List.mem_append_right _ hm))
      obtain ⟨r1, r2⟩ : (bkRoots S.ro S.ins).length = nn (bk S.ro S.ins) ∧ ∀ (j k : Nat), (bkRoots S.ro S.ins)[j]? = some (some k) → ms[j]? = some k ∧ 0 ≤ k ∧ k < 0 + nn S.ins := bk_roots hfb hid
      have B : Back (bkRoots S.ro S.ins) ns ms os nx1 (nn (bk S.ro S.ins)) :=
       { root := fun j k hj => by
          obtain ⟨q1, q2, q3⟩ := r2 j k hj
          exact ⟨q1, by rw [hlen]; omega⟩
         len := r1
         mlen := car2.len
         nlt := fun h hm => (hns h hm).1
         nnd := hnd
         snd := hnd2 }
      obtain ⟨g1, g2, g3, g4⟩ := give_back Hx rfl (fun b i hf => hf) (fun b hf => hf) H3 B hfx (fun h hm => (hns h hm).2) (fun k h v hk hv => lb3 k v (lb k v (by show (ns[k]?).bind βx = some v; rw [hk]; exact hv))) (s := bk S.ro S.ins) (t := A.outs) (z := z) (y := y) rfl car1.len car2 car1
       (hset hp (fullW S.ro A x ns fz nx1)) (fun h => by
        show hset hp (intoH (nmBack (bkRoots S.ro S.ins) ns nx1) (bk S.ro S.ins) (bkUpd S.ro A x) 0 (intoH (fun k => nx1 + nn (bk S.ro S.ins) + k) A.outs (A.res x) 0 (deadL ns fz))) h = _
        rw [← hy, ← hz, intoH_eq, intoH_eq, intoH_eq, intoH_eq]
        rw [hset_zipN, hset_zipN _ (hset (hset hp fz) ex)]
        refine hset_zip_congr _ _ ?_ _ _
        intro h
        rw [hset_zipN, hset_zipN _ (hset (hset hp fz) ex)]
        refine hset_zip_congr _ _ ?_ _ _
        intro h
        rw [hset_deadL, hset_deadL]
        by_cases hm : h ∈ ns
        · rw [if_pos hm, if_pos hm]
        · rw [if_neg hm, if_neg hm]
          show hset hp fz h = hset (hset (hset hp fz) ex) [] h
          have hnk : h ∉ keysH ex := fun hk => by
           obtain ⟨o, hk⟩ := mem_keys hk
           exact hm (hexn h o hk)
          show hset hp fz h = hset (hset hp fz) ex h
          rw [hset_not hnk])
      rw [fullW_eq S.ro A (S.sel x = 0 + S.sel x) x ns fz nx nx1 hp (by rw [hlen]) (fun h hm => (hns h hm).1) hsame] at g1
      refine ⟨_, G', rfl, g1, Asg.le_trans lx g2, GW.le_trans l1 lg, ?_⟩
      show sat (resA A.outs (A.res x) (nx1 + nn (bk S.ro S.ins))) _ G' (resV vs)
      rw [← hy]
      exact resV_sat hfo hL (g4 vs hL)
   · cases he
 · cases he
end Go.Gv

/- Contracts whose outcome is settled late; what it is to feed a consumer. -/
namespace Go.Gv
open Go
def LSpecOK (P : Program) (gl : Glob) (f : FuncId) (S : LSpec) : Prop :=
 (∃ fn, P.funcs[f]? = some fn ∧ fn.body.isNone = false ∧ (fn.name == "runtime.NumGoroutine") = false) ∧
 ∀ x, S.pre x → ∀ (C : Ctx) (β : Asg) (G : GW) (args : List Value), C.glob = gl → (S.noisy = true → C.G0.nz) → HInv C (canon S.ins x) β G → satT (intoA (fun k => k) S.ins x 0) β G args →
  Calls P f args.toArray G.w (fun e w' => match e with
   | .returned v => ∃ χ, S.ok x χ ∧ RetOK C false S.ins (S.alt χ) x β G v w'
   | _ => False)
def Bite (P : Program) (ts : List Ty) (y : TDat ts) (E : Eater) (R : Bool → Eater → Prop) : Prop :=
 ∀ (v : Value) (G : GW) (vals : List Value), E.J v G → OldOK G → satD ts y G vals → ∃ L fn tmps assign body, v = .func (.yield L) #[] #[] ∧ (Instr.yield L vals.toArray).run P G.w = .ok (.round L fn tmps assign body) G.w ∧
  RoundIn Fence.wide 0 P L fn tmps assign body G.w (fun e w' => ∃ q E' G', e = .returned (.bool q) ∧ G'.w = w' ∧ Step E.F E.Fo G G' ∧ OldOK G' ∧ E'.J v G' ∧
   (∀ b o, E'.F b o → (E.F b o ∨ G.w.heap.size ≤ b) ∧ ¬ G'.im b o ∧ b < G'.w.heap.size) ∧ (∀ b, E'.Fo b → (E.Fo b ∨ G.w.heap.size ≤ b) ∧ ¬ G'.imo b ∧ b < G'.w.heap.size) ∧ R q E')
def eatsL (P : Program) (ts : List Ty) (D : Eater → Prop) : List (TDat ts) → Eater → Prop
 | [], E => D E
 | y :: r, E => Bite P ts y E (fun q E' => if q = true then eatsL P ts D r E' else D E')
def Eats (P : Program) : Feed := fun ts D ys E => eatsL P ts D ys E
def ItOK (P : Program) (gl : Glob) (f : FuncId) (S : ItSpec) : Prop :=
 (∃ fn, P.funcs[f]? = some fn ∧ fn.body.isNone = false ∧ (fn.name == "runtime.NumGoroutine") = false) ∧
 ∀ (x : SDat (.cons (.ob (.log S.ts)) S.caps)), S.pre x.2 → x.1.1 = S.seq x.2 → Eats P S.ts x.1.2.2 x.1.1 x.1.2.1 → ∀ (C : Ctx) (β : Asg) (G : GW) (args : List Value), C.glob = gl → (S.noisy = true → C.G0.nz) → HInv C (canon (.cons (.ob (.log S.ts)) S.caps) x) β G →
  satT (intoA (fun k => k) (.cons (.ob (.log S.ts)) S.caps) x 0) β G args → Calls P f args.toArray G.w (fun e w' => match e with
   | .returned _ => ∃ (hp' : Nat → HObj) (β' : Asg) (G' : GW) (h : Nat) (E' : Eater), G'.w = w' ∧ HInv C hp' β' G' ∧ G.le G' ∧ hp' h = .ob (.log S.ts) ([], E', x.1.2.2) ∧ x.1.2.2 E'
   | _ => False)
structure LateOK (P : Program) (c : Cf) : Prop where
 eat : ∀ ts D ys E, c.eat ts D ys E → c.eat = Eats P
 L : ∀ g S, S ∈ c.L g → LSpecOK P c.gl g S ∧ (S.noisy = true → c.nz = true)
 I : ∀ g S, S ∈ c.I g → ItOK P c.gl g S ∧ (S.noisy = true → c.nz = true)
theorem callL_run {P : Program} {gl : Glob} {f : FuncId} {S : LSpec} (hS : LSpecOK P gl f S) {C : Ctx} {hp : Nat → HObj} {nx : Nat} {β : Asg} {G : GW} {args : List AP} {vals : List Value} {D : Dyn}
    (he : callL S hp nx args = some D) (hpre : ∀ p ∈ D.vc, p) (H : HInv C hp β G) (hfr : ∀ n, nx ≤ n → hp n = .none) (hg : C.glob = gl) (hz : S.noisy = true → C.G0.nz) (ha : satT (listA args) β G vals) :
    Calls P f vals.toArray G.w (fun e w' => match e with
     | .returned v => ∃ x, D.ok x ∧ ∃ β' G', G'.w = w' ∧ HInv C (hset hp (D.W x).hw) β' G' ∧ β.le β' ∧ G.le G' ∧ sat (D.W x).ap β' G' v
     | _ => False) := by
 unfold callL at he
 generalize hfz : frzArgs hp S.ins args = fz at he
 dsimp only at he
 split at he
 · rename_i x ns ex nx1 hfa
   split at he
   · rename_i hnd
     have hnd := nodupN_iff.1 hnd
     simp only [Option.some.injEq] at he; subst he
     have hpre : S.pre x := hpre _ (List.mem_singleton.2 rfl)
     have hsame : false = true → sameP (hset hp fz) (intoH (nmBack (idR (nn S.ins) 0) ns nx1) S.ins x 0 []) := fun hr => by cases hr
     have hspec : ∀ h o, (h, o) ∈ fz → frzO (hp h) = some o := fun h o hm => frzArgs_spec S.ins args h o (by rw [hfz]; exact hm)
     obtain ⟨G1, e1, l1, H1⟩ := HInv.freezeL fz H hspec
     have hfr1 : ∀ n, nx ≤ n → hset hp fz n = .none := fun n hn => by
      by_cases hk : n ∈ keysH fz
      · obtain ⟨o, hm⟩ := mem_keys hk
        have e := hspec n o hm
        rw [hfr n hn] at e; cases e
      · rw [hset_not hk]; exact hfr n hn
     obtain ⟨βx, Hx, lx, car, le1, hns, hfx, hexn, hlen, _, _⟩ := take_in H1 hfr1 hfa
     have hcall := hS.2 x hpre
     have hcan := canon_inv Hx car hnd
     obtain ⟨_, _, c3, _⟩ := car.go (fun k => k) 0 (fun k => (ns[k]?).bind βx) (fun k h hk => by simp [hk])
     have hc := hcall { G0 := G1, F0 := fun b i => ∃ h v, h ∈ ns ∧ βx h = some v ∧ fpc (hset (hset hp fz) ex h) v b i, Fo0 := fun b => ∃ h v, h ∈ ns ∧ βx h = some v ∧ fpo (hset (hset hp fz) ex h) v b, glob := C.glob, N := C.N } _ G1 vals hg (fun h => by show G1.nz; rw [H1.step.nz]; exact hz h) hcan (c3 vals (satT.mono _ ha (Asg.le_refl β) l1))
     rw [← e1]
     refine Calls.mono hc fun e w' hr => ?_
     cases e with
     | panicked _ => exact hr.elim
     | outgrown => exact hr.elim
     | returned v =>
      obtain ⟨χ, hχ, hrx⟩ := hr
      obtain ⟨hp', β', G', L, vs, nx', y, os, ex', nx1', z, ms, ey, nx2, rfl, H2, lb, lg, rfl, hL, hfr', hfo, hfb, hnd2, hy, hz, hid⟩ := hrx.ex
      have hnd2 := nodupN_iff.1 hnd2
      have hcomb : fromA hp' (.cons (S.alt χ).outs (bk false S.ins)) (.cons (listA L) (bkEnd false S.ins x)) nx' = some ⟨(y, z), os ++ ms, ex' ++ ey, nx2⟩ := by
       unfold fromA; simp only [hfo, hfb]
      obtain ⟨β'x, H3, lb3, _, _, _, _, _, _, hold3, hex3⟩ := take_in H2 hfr' hcomb
      have car1 := fromA_trans H2.hs hold3 (S.alt χ).outs (listA L) nx' y os ex' nx1' hfo (fun h o hm => hex3 h o (List.mem_append_left _ hm))
      have car2 := fromA_trans H2.hs hold3 (bk false S.ins) (bkEnd false S.ins x) nx1' z ms ey nx2 hfb (fun h o hm => hex3 h o (List.mem_append_right _ hm))
      obtain ⟨r1, r2⟩ : (bkRoots false S.ins).length = nn (bk false S.ins) ∧ ∀ (j k : Nat), (bkRoots false S.ins)[j]? = some (some k) → ms[j]? = some k ∧ 0 ≤ k ∧ k < 0 + nn S.ins := bk_roots hfb hid
      have B : Back (bkRoots false S.ins) ns ms os nx1 (nn (bk false S.ins)) :=
       { root := fun j k hj => by
          obtain ⟨q1, q2, q3⟩ := r2 j k hj
          exact ⟨q1, by rw [hlen]; omega⟩
         len := r1
         mlen := car2.len
         nlt := fun h hm => (hns h hm).1
         nnd := hnd
         snd := hnd2 }
      obtain ⟨g1, g2, g3, g4⟩ := give_back Hx rfl (fun b i hf => hf) (fun b hf => hf) H3 B hfx (fun h hm => (hns h hm).2) (fun k h v hk hv => lb3 k v (lb k v (by show (ns[k]?).bind βx = some v; rw [hk]; exact hv))) (s := bk false S.ins) (t := (S.alt χ).outs) (z := z) (y := y) rfl car1.len car2 car1
       (hset hp (fullW false (S.alt χ) x ns fz nx1)) (fun h => by
        show hset hp (intoH (nmBack (bkRoots false S.ins) ns nx1) (bk false S.ins) (bkUpd false (S.alt χ) x) 0 (intoH (fun k => nx1 + nn (bk false S.ins) + k) (S.alt χ).outs ((S.alt χ).res x) 0 (deadL ns fz))) h = _
        rw [← hy, ← hz, intoH_eq, intoH_eq, intoH_eq, intoH_eq]
        rw [hset_zipN, hset_zipN _ (hset (hset hp fz) ex)]
        refine hset_zip_congr _ _ ?_ _ _
        intro h
        rw [hset_zipN, hset_zipN _ (hset (hset hp fz) ex)]
        refine hset_zip_congr _ _ ?_ _ _
        intro h
        rw [hset_deadL, hset_deadL]
        by_cases hm : h ∈ ns
        · rw [if_pos hm, if_pos hm]
        · rw [if_neg hm, if_neg hm]
          show hset hp fz h = hset (hset (hset hp fz) ex) [] h
          have hnk : h ∉ keysH ex := fun hk => by
           obtain ⟨o, hk⟩ := mem_keys hk
           exact hm (hexn h o hk)
          show hset hp fz h = hset (hset hp fz) ex h
          rw [hset_not hnk])
      rw [fullW_eq false (S.alt χ) True x ns fz nx nx1 hp (by rw [hlen]) (fun h hm => (hns h hm).1) hsame] at g1
      refine ⟨χ, hχ, _, G', rfl, g1, Asg.le_trans lx g2, GW.le_trans l1 lg, ?_⟩
      show sat (resA (S.alt χ).outs ((S.alt χ).res x) (nx1 + nn (bk false S.ins))) _ G' (resV vs)
      rw [← hy]
      exact resV_sat hfo hL (g4 vs hL)
   · cases he
 · cases he
end Go.Gv

/- The run over a region, taken apart: what each operation comes to, in the order of the text. -/
namespace Go.Gv
open Go
structure TE where
 path : Path
 ap : AP
 hw : List (Nat × HObj)
 ns : List Nat
 k : Nat
def pathProp (gd : List (Nat × (Prop × Path))) : Path → Prop
 | [] => True
 | (j, true) :: r => match lookN gd j with
  | some (p, _) => p ∧ pathProp gd r
  | none => False
 | (j, false) :: r => match lookN gd j with
  | some (p, _) => ¬ p ∧ pathProp gd r
  | none => False
theorem pathProp_t {gd : List (Nat × (Prop × Path))} {j : Nat} {r : Path} {p : Prop} {pp : Path} (h : lookN gd j = some (p, pp)) : pathProp gd ((j, true) :: r) = (p ∧ pathProp gd r) := by
 rw [pathProp, h]
theorem pathProp_f {gd : List (Nat × (Prop × Path))} {j : Nat} {r : Path} {p : Prop} {pp : Path} (h : lookN gd j = some (p, pp)) : pathProp gd ((j, false) :: r) = (¬ p ∧ pathProp gd r) := by
 rw [pathProp, h]
theorem impP_spec {gd : List (Nat × (Prop × Path))} : ∀ (path : Path) (q : Prop) (K : Prop → Prop), impP gd path q K → ∃ q', K q' ∧ (q' → pathProp gd path → q)
 | [], q, K, h => ⟨q, h, fun h _ => h⟩
 | (j, true) :: r, q, K, h => by
  unfold impP at h
  split at h
  · rename_i p _ hl
    obtain ⟨q', h1, h2⟩ := impP_spec r _ K h
    exact ⟨q', h1, fun hq hp => by rw [pathProp_t hl] at hp; exact h2 hq hp.2 hp.1⟩
  · exact h.elim
 | (j, false) :: r, q, K, h => by
  unfold impP at h
  split at h
  · rename_i p _ hl
    obtain ⟨q', h1, h2⟩ := impP_spec r _ K h
    exact ⟨q', h1, fun hq hp => by rw [pathProp_f hl] at hp; exact h2 hq hp.2 hp.1⟩
  · exact h.elim
theorem impAll_spec {gd : List (Nat × (Prop × Path))} {path : Path} : ∀ (l acc : List Prop) (K : List Prop → Prop), impAll gd path l acc K → ∃ vc', K vc' ∧ ((∀ p ∈ vc', p) → (∀ p ∈ acc, p) ∧ (pathProp gd path → ∀ p ∈ l, p))
 | [], acc, K, h => ⟨acc, h, fun h => ⟨h, fun _ p hp => by cases hp⟩⟩
 | p :: r, acc, K, h => by
  unfold impAll at h
  obtain ⟨q, h1, h2⟩ := impP_spec _ _ _ h
  obtain ⟨vc', h3, h4⟩ := impAll_spec r (q :: acc) K h1
  refine ⟨vc', h3, fun hv => ?_⟩
  obtain ⟨h5, h6⟩ := h4 hv
  refine ⟨fun p hp => h5 p (List.mem_cons_of_mem _ hp), fun hpp x hx => ?_⟩
  rcases List.mem_cons.1 hx with rfl | hx
  · exact h2 (h5 q List.mem_cons_self) hpp
  · exact h6 hpp x hx
theorem condP_spec {gd : List (Nat × (Prop × Path))} : ∀ (path : Path) (q : Prop) (K : Prop → Prop), condP gd path q K → ∃ q', K q' ∧ (q' ↔ (pathProp gd path ∧ q))
 | [], q, K, h => ⟨q, h, by simp [pathProp]⟩
 | (j, true) :: r, q, K, h => by
  unfold condP at h
  split at h
  · rename_i p _ hl
    obtain ⟨q', h1, h2⟩ := condP_spec r _ K h
    refine ⟨q', h1, h2.trans ?_⟩
    rw [pathProp_t hl]
    exact ⟨fun ⟨a, b, c⟩ => ⟨⟨b, a⟩, c⟩, fun ⟨⟨a, b⟩, c⟩ => ⟨b, a, c⟩⟩
  · exact h.elim
 | (j, false) :: r, q, K, h => by
  unfold condP at h
  split at h
  · rename_i p _ hl
    obtain ⟨q', h1, h2⟩ := condP_spec r _ K h
    refine ⟨q', h1, h2.trans ?_⟩
    rw [pathProp_f hl]
    exact ⟨fun ⟨a, b, c⟩ => ⟨⟨b, a⟩, c⟩, fun ⟨⟨a, b⟩, c⟩ => ⟨b, a, c⟩⟩
  · exact h.elim
theorem allP_spec : ∀ {l : List Prop}, allP l → ∀ p ∈ l, p
 | [], _, p, hp => by cases hp
 | [q], h, p, hp => by rw [List.mem_singleton] at hp; subst hp; exact h
 | q :: r :: l, h, p, hp => by
  have h' : allP (r :: l) ∧ q := h
  rcases List.mem_cons.1 hp with rfl | hp
  · exact h'.2
  · exact allP_spec h'.1 p hp
def nextP (i : Nat) (dst : Option Nat) (path : Path) (ap : AP) (hw : List (Nat × HObj)) (k : Nat) (ns : List Nat) (vc : List Prop) (rs : RS) : RS :=
 { sl := match dst with | some d => (d, ⟨path, ap⟩) :: rs.sl | none => rs.sl, hp := hw ++ rs.hp, nx := rs.nx + k,
   gd := match dst, propOf ap with | some _, some p => (i, (p, path)) :: rs.gd | _, _ => rs.gd, vc := vc, tr := (keysR hw [], ns) :: rs.tr, wr := keysR hw rs.wr }
theorem keysR_app : ∀ (l : List (Nat × HObj)) (r : List Nat), keysR l [] ++ r = keysR l r
 | [], _ => rfl
 | (h, o) :: l, r => by simp only [keysR, List.cons_append, keysR_app l r]
theorem nextRS_eq {i : Nat} {dst : Option Nat} {path : Path} {ap : AP} {hw : List (Nat × HObj)} {k : Nat} {ns : List Nat} {vc : List Prop} {K : RS → Prop} {rs : RS} (h : nextRS i dst path ap hw k ns vc K rs) : K (nextP i dst path ap hw k ns vc rs) := by
 cases rs with
 | mk sl hp nx gd vc0 tr wr =>
  unfold nextRS at h
  dsimp only at h
  rw [forceN_eq, appF_eq, forceNs_eq, appF_eq, keysR_app] at h
  cases dst with
  | none => exact h
  | some d =>
   cases hp' : propOf ap with
   | none => rw [hp'] at h; unfold nextP; rw [hp']; exact h
   | some p => rw [hp'] at h; unfold nextP; rw [hp']; exact h
inductive Ev (c : Cf) (ops : List Oper) (rs : RS) (path : Path) (o : Oper) : List Prop → List Way → List Nat → Prop where
 | pick (x a b : Operand) (ap : AP) (h1 : pickOf o.op = some (x, a, b)) (h2 : pickA c.gl ops rs.slf rs.gd path x a b = some ap) : Ev c ops rs path o [] [⟨True, ap, [], 0⟩] []
 | call (f : Operand) (g : Nat) (caps : AP) (l : List AP) (ns : List Nat) (pre : Prop) (ws : List Way) (h0 : pickOf o.op = none) (h1 : calleeOf o.op = some f) (h2 : calA (opA c.gl rs.slf path f) = .clos g caps) (h3 : unlistA caps = some l)
  (h4 : closedB rs.hpf ns ns = true) (h6 : ∀ h ∈ namesL ((opnds o.op).map (opA c.gl rs.slf path) ++ l) [], h ∈ ns) (h5 : callAny (resH rs.hpf ns) rs.nx ((opnds o.op).map (opA c.gl rs.slf path) ++ l) (c.F g) = some (pre, ws)) : Ev c ops rs path o [pre] ws ns
 | op (ns : List Nat) (vc : List Prop) (ap : AP) (hw : List (Nat × HObj)) (k : Nat) (h0 : pickOf o.op = none) (h1 : calleeOf o.op = none) (h4 : closedB rs.hpf ns ns = true) (h6 : ∀ h ∈ namesL ((opnds o.op).map (opA c.gl rs.slf path)) [], h ∈ ns)
  (h5 : evalOp c.E (resH rs.hpf ns) rs.nx (nonEmpty path) o.dst o.op ((opnds o.op).map (opA c.gl rs.slf path)) = some ⟨vc, ap, hw, k⟩) : Ev c ops rs path o vc [⟨True, ap, hw, k⟩] ns
 | split (vc : List Prop) (ns : List Nat) (W : Way) (p : Prop) (h : Ev c ops rs path o vc [W] ns) (hp : propOf W.ap = some p) : Ev c ops rs path o vc [⟨p, .blit true, W.hw, W.k⟩, ⟨¬ p, .blit false, W.hw, W.k⟩] ns
theorem Ev.splitW {c : Cf} {ops : List Oper} {rs : RS} {path : Path} {o : Oper} {vc : List Prop} {ws : List Way} {ns : List Nat} (h : Ev c ops rs path o vc ws ns) (spl : List Nat) (dst : Option Nat) : Ev c ops rs path o vc (Gv.splitW spl dst ws) ns := by
 unfold Gv.splitW
 split
 · split
   · split
     · split
       · rename_i p hp
         exact .split vc ns _ p h hp
       · exact h
     · exact h
   · exact h
 · exact h
theorem addN_mem {l : List Nat} {n h : Nat} : h ∈ addN l n ↔ h = n ∨ h ∈ l := by
 unfold addN
 split
 · rename_i e
   have := memN_iff.1 e
   exact ⟨.inr, fun hh => hh.elim (fun e => e ▸ this) id⟩
 · exact List.mem_cons
theorem namesA_mono : ∀ (X : AP) {l : List Nat} {h : Nat}, h ∈ l → h ∈ namesA X l := by
 intro X
 induction X with
 | ref n => intro l h hm; exact addN_mem.2 (.inr hm)
 | loc n o => intro l h hm; exact addN_mem.2 (.inr hm)
 | rloc n i s o => intro l h hm; exact addN_mem.2 (.inr hm)
 | sl n t xs => intro l h hm; exact addN_mem.2 (.inr hm)
 | agg c ih => intro l h hm; exact ih hm
 | tup c ih => intro l h hm; exact ih hm
 | clos f c ih => intro l h hm; exact ih hm
 | cons a b iha ihb => intro l h hm; exact iha (ihb hm)
 | _ => intro l h hm; exact hm
theorem namesO_mono (o : HObj) {l : List Nat} {h : Nat} (hm : h ∈ l) : h ∈ namesO o l := by
 cases o <;> first | exact namesA_mono _ hm | exact hm
theorem reach1_mono {hp : Nat → HObj} : ∀ (r l : List Nat) (h : Nat), h ∈ l → h ∈ reach1 hp r l
 | [], _, _, hm => hm
 | _ :: r, _, h, hm => reach1_mono r _ h (namesO_mono _ hm)
theorem reachN_sub (hp : Nat → HObj) : ∀ (n : Nat) (l : List Nat) (h : Nat), h ∈ l → h ∈ reachN hp n l
 | 0, _, _, hm => hm
 | n + 1, [], h, hm => by cases hm
 | n + 1, a :: r, h, hm => reachN_sub hp n _ h (reach1_mono _ _ h hm)
theorem stepA_ev {c : Cf} {ops : List Oper} {rs : RS} {path : Path} {o : Oper} {K : List Prop → List Way → List Nat → Prop} (h : stepA c ops rs.slf rs.hpf rs.nx rs.gd path o K) : ∃ vc ws ns, Ev c ops rs path o vc ws ns ∧ K vc ws ns := by
 unfold stepA at h
 split at h
 · rename_i x a b h1
   split at h
   · rename_i ap h2
     exact ⟨_, _, _, .pick x a b ap h1 h2, h⟩
   · exact h.elim
 · rename_i h0
   rw [forceL_eq] at h
   split at h
   · rename_i f h1
     rw [forceA_eq] at h
     split at h
     · rename_i g caps h2
       split at h
       · rename_i l h3
         rw [forceNs_eq] at h
         split at h
         · rename_i h4
           split at h
           · rename_i pre ws h5
             exact ⟨_, _, _, .call f g caps l _ pre ws h0 h1 h2 h3 h4 (fun h hm => reachN_sub _ _ _ h hm) h5, h⟩
           · exact h.elim
         · exact h.elim
       · exact h.elim
     · exact h.elim
   · rename_i h1
     rw [forceNs_eq] at h
     split at h
     · rename_i h4
       split at h
       · rename_i vc ap hw k h5
         exact ⟨_, _, _, .op _ vc ap hw k h0 h1 h4 (fun h hm => reachN_sub _ _ _ h hm) h5, h⟩
       · exact h.elim
     · exact h.elim
inductive Went (c : Cf) (ops : List Oper) (rs : RS) (o : Oper) : TE → Prop where
 | way (path : Path) (vc : List Prop) (ws : List Way) (ns : List Nat) (W : Way) (i : Nat) (hev : Ev c ops rs path o vc ws ns) (hW : ws[i]? = some W) (hon : ws.length ≠ 1 → pathProp rs.gd path → W.on) (hv : pathProp rs.gd path → ∀ p ∈ vc, p)
  (hk : keysOK ns rs.nx W.k W.hw = true) (hh : W.hw ≠ [] → pathProp rs.gd path) : Went c ops rs o ⟨path, W.ap, W.hw, ns, W.k⟩
 | skip (path : Path) (ns : List Nat) (hp : ¬ pathProp rs.gd path) : Went c ops rs o ⟨path, .any, [], ns, 0⟩
inductive Walk (c : Cf) (ops : List Oper) : List Oper → Nat → RS → List TE → RS → Prop where
 | done (i : Nat) (rs : RS) : Walk c ops [] i rs [] rs
 | step (o : Oper) (r : List Oper) (i : Nat) (rs : RS) (e : TE) (vc : List Prop) (es : List TE) (rsE : RS) (hp : pathOf rs.gd o = some e.path) (hd : dstOK o.dst c.N = true) (hw : Went c ops rs o e)
  (h : Walk c ops r (i + 1) (nextP i o.dst e.path e.ap e.hw e.k e.ns vc rs) es rsE) : Walk c ops (o :: r) i rs (e :: es) rsE
theorem goWay_spec {i : Nat} {dst : Option Nat} {path : Path} {ns : List Nat} {vc : List Prop} {go : RS → Prop} {rs : RS} {W : Way} (h : goWay i dst path ns vc go rs W) : keysOK ns rs.nx W.k W.hw = true ∧ go (nextP i dst path W.ap W.hw W.k ns vc rs) := by
 cases W with
 | mk on ap hw k =>
  unfold goWay at h
  dsimp only at h
  split at h
  · rename_i hk
    rw [forceA_eq, forceH_eq, forceN_eq] at h
    exact ⟨hk, nextRS_eq h⟩
  · exact h.elim
theorem goSkip_spec {i : Nat} {dst : Option Nat} {path : Path} {ns : List Nat} {vc : List Prop} {go : RS → Prop} {rs : RS} (h : goSkip i dst path ns vc go rs) : go (nextP i dst path .any [] 0 ns vc rs) := nextRS_eq h
theorem goWays_spec {i : Nat} {dst : Option Nat} {path : Path} {ns : List Nat} {vc : List Prop} {go : RS → Prop} {rs : RS} : ∀ {ws : List Way}, goWays i dst path ns vc go rs ws → ∀ (j : Nat) (W : Way), ws[j]? = some W → W.on → goWay i dst path ns vc go rs W
 | [], _, j, W, hj, _ => by simp at hj
 | V :: r, h, 0, W, hj, hon => by simp at hj; subst hj; exact (h.1 hon).out
 | V :: r, h, j + 1, W, hj, hon => goWays_spec h.2.out j W (by simpa using hj) hon
theorem goAll_spec {gd : List (Nat × (Prop × Path))} {i : Nat} {dst : Option Nat} {path : Path} {ns : List Nat} {vc : List Prop} {go : RS → Prop} {rs : RS} {ws : List Way} (h : goAll gd i dst path ns vc go rs ws)
    (hways : (∀ p ∈ vc, p) → pathProp gd path → ∃ (j : Nat) (W : Way), ws[j]? = some W ∧ W.on) :
    (∃ (j : Nat) (W : Way) (vc' : List Prop), ws[j]? = some W ∧ (ws.length ≠ 1 → pathProp gd path → W.on) ∧ keysOK ns rs.nx W.k W.hw = true ∧ (W.hw ≠ [] → pathProp gd path) ∧ go (nextP i dst path W.ap W.hw W.k ns vc' rs) ∧ ((∀ p ∈ vc', p) → ∀ p ∈ vc, p)) ∨
    ∃ vc', ¬ pathProp gd path ∧ go (nextP i dst path .any [] 0 ns vc' rs) ∧ ((∀ p ∈ vc', p) → ∀ p ∈ vc, p) := by
 by_cases h1 : ∃ W, ws = [W]
 · obtain ⟨W, rfl⟩ := h1
   cases path with
   | nil =>
    have h' : goWay i dst [] ns vc go rs W := by
     unfold goAll at h
     exact h
    obtain ⟨hk, hg⟩ := goWay_spec h'
    exact .inl ⟨0, W, vc, rfl, fun hl => (hl rfl).elim, hk, fun _ => trivial, hg, id⟩
   | cons e r =>
    cases hW : W.hw with
    | nil =>
     have h' : goWay i dst (e :: r) ns vc go rs W := by
      unfold goAll at h
      dsimp only at h
      rw [hW] at h
      exact h
     obtain ⟨hk, hg⟩ := goWay_spec h'
     exact .inl ⟨0, W, vc, rfl, fun hl => (hl rfl).elim, hk, fun hw => (hw hW).elim, hg, id⟩
    | cons a l =>
     have h' : condP gd (e :: r) True (fun p => (p → More (goWay i dst (e :: r) ns vc go rs W)) ∧ (¬ p → More (goSkip i dst (e :: r) ns vc go rs))) := by
      unfold goAll at h
      dsimp only at h
      rw [hW] at h
      exact h
     obtain ⟨q, hq, hiff⟩ := condP_spec _ _ _ h'
     by_cases hpp : pathProp gd (e :: r)
     · obtain ⟨hk, hg⟩ := goWay_spec (hq.1 (hiff.2 ⟨hpp, trivial⟩)).out
       exact .inl ⟨0, W, vc, rfl, fun hl => (hl rfl).elim, hk, fun _ => hpp, hg, id⟩
     · exact .inr ⟨vc, hpp, goSkip_spec (hq.2 (fun hqq => hpp (hiff.1 hqq).1)).out, id⟩
 · cases path with
   | nil =>
    have h' : allP vc ∧ More (goWays i dst [] ns [] go rs ws) := by
     unfold goAll at h
     split at h
     · rename_i W; exact (h1 ⟨W, rfl⟩).elim
     · exact h
    obtain ⟨hv, hg⟩ := h'
    have hvp := allP_spec hv
    obtain ⟨j, W, hj, hon⟩ := hways hvp trivial
    obtain ⟨hk, hg⟩ := goWay_spec (goWays_spec hg.out j W hj hon)
    exact .inl ⟨j, W, [], hj, fun _ _ => hon, hk, fun _ => trivial, hg, fun _ => hvp⟩
   | cons e r =>
    have h' : condP gd (e :: r) True (fun p => allP vc ∧ (p → More (goWays i dst (e :: r) ns [] go rs ws)) ∧ (¬ p → More (goSkip i dst (e :: r) ns [] go rs))) := by
     unfold goAll at h
     split at h
     · rename_i W; exact (h1 ⟨W, rfl⟩).elim
     · exact h
    obtain ⟨q, hq, hiff⟩ := condP_spec _ _ _ h'
    have hvp := allP_spec hq.1
    by_cases hpp : pathProp gd (e :: r)
    · obtain ⟨j, W, hj, hon⟩ := hways hvp hpp
      obtain ⟨hk, hg⟩ := goWay_spec (goWays_spec (hq.2.1 (hiff.2 ⟨hpp, trivial⟩)).out j W hj hon)
      exact .inl ⟨j, W, [], hj, fun _ _ => hon, hk, fun _ => hpp, hg, fun _ => hvp⟩
    · exact .inr ⟨[], hpp, goSkip_spec (hq.2.2 (fun hqq => hpp (hiff.1 hqq).1)).out, fun _ => hvp⟩
theorem nextP_vc (i : Nat) (dst : Option Nat) (path : Path) (ap : AP) (hw : List (Nat × HObj)) (k : Nat) (ns : List Nat) (vc : List Prop) (rs : RS) : (nextP i dst path ap hw k ns vc rs).vc = vc := rfl
theorem ev_ways {P : Program} {c : Cf} (hS : SpecsOK P c.gl c.F c.nz) {ops : List Oper} {rs : RS} {path : Path} {o : Oper} {vc : List Prop} {ws : List Way} {ns : List Nat} (h : Ev c ops rs path o vc ws ns) (hv : ∀ p ∈ vc, p) : ∃ (j : Nat) (W : Way), ws[j]? = some W ∧ W.on := by
 cases h with
 | pick x a b ap h1 h2 => exact ⟨0, _, rfl, trivial⟩
 | op _ _ ap hw k h0 h1 h4 h6 h5 => exact ⟨0, _, rfl, trivial⟩
 | split _ _ W p h hp =>
  by_cases hpp : p
  · exact ⟨0, _, rfl, hpp⟩
  · exact ⟨1, _, rfl, hpp⟩
 | call f g caps l _ pre _ h0 h1 h2 h3 h4 h6 h5 =>
  obtain ⟨S, hm, hc⟩ := callAny_of h5
  exact callA_on (hS g S hm).1 hc (hv _ List.mem_cons_self)
theorem runOps_walk {P : Program} {c : Cf} (hS : SpecsOK P c.gl c.F c.nz) {ops : List Oper} : ∀ (r : List Oper) (i : Nat) (rs : RS) (K : RS → Prop), runOps c false ops r i rs K → ∃ es rsE, K rsE ∧ ((∀ p ∈ rsE.vc, p) → Walk c ops r i rs es rsE ∧ ∀ p ∈ rs.vc, p)
 | [], i, rs, K, h => ⟨[], rs, h, fun hv => ⟨.done i rs, hv⟩⟩
 | o :: r, i, ⟨sl, hp, nx, gd, vc, tr, wr⟩, K, h => by
  unfold runOps at h
  split at h
  · rename_i path hpa hd
    split at h
    · obtain ⟨q, hq, hiff⟩ := condP_spec _ _ _ h
      have hnp : ¬ pathProp gd path := fun hpp => hq.1 (hiff.2 ⟨hpp, trivial⟩)
      obtain ⟨es, rsE, hK, hrest⟩ := runOps_walk hS r (i + 1) _ K (goSkip_spec hq.2.out)
      refine ⟨⟨path, .any, [], [], 0⟩ :: es, rsE, hK, fun hv => ?_⟩
      obtain ⟨hw, hvc⟩ := hrest hv
      exact ⟨.step o r i _ _ vc es rsE hpa hd (.skip path [] hnp) hw, hvc⟩
    obtain ⟨vc1, ws0, ns, hev0, h1⟩ := stepA_ev (rs := ⟨sl, hp, nx, gd, vc, tr, wr⟩) h
    obtain ⟨ws, hws⟩ : ∃ ws, ws = Gv.splitW c.spl o.dst ws0 := ⟨_, rfl⟩
    have hev := hev0.splitW c.spl o.dst
    rw [← hws] at h1 hev
    obtain ⟨vc', h2, h3⟩ := impAll_spec _ _ _ h1
    rcases goAll_spec h2 (fun hv hpp => ev_ways hS hev ((h3 hv).2 hpp)) with ⟨j, W, vc'', hj, hon, hk, hh, hgo, hvv⟩ | ⟨vc'', hnp, hgo, hvv⟩
    · obtain ⟨es, rsE, hK, hrest⟩ := runOps_walk hS r (i + 1) _ K hgo
      refine ⟨⟨path, W.ap, W.hw, ns, W.k⟩ :: es, rsE, hK, fun hv => ?_⟩
      obtain ⟨hw, hvc⟩ := hrest hv
      have hv1 := h3 (hvv hvc)
      exact ⟨.step o r i _ _ vc'' es rsE hpa hd (.way path vc1 ws ns W j hev hj hon hv1.2 hk hh) hw, hv1.1⟩
    · obtain ⟨es, rsE, hK, hrest⟩ := runOps_walk hS r (i + 1) _ K hgo
      refine ⟨⟨path, .any, [], ns, 0⟩ :: es, rsE, hK, fun hv => ?_⟩
      obtain ⟨hw, hvc⟩ := hrest hv
      exact ⟨.step o r i _ _ vc'' es rsE hpa hd (.skip path ns hnp) hw, (h3 (hvv hvc)).1⟩
  · exact h.elim
theorem goDyn_spec {gd : List (Nat × (Prop × Path))} {i : Nat} {dst : Option Nat} {path : Path} {vc : List Prop} {go : RS → Prop} {rs : RS} {D : Dyn} (h : goDyn gd i dst path vc go rs D) :
    (∀ p ∈ vc, p) ∧ (pathProp gd path → ∀ x, D.ok x → keysOK D.ns rs.nx (D.W x).k (D.W x).hw = true ∧ go (nextP i dst path (D.W x).ap (D.W x).hw (D.W x).k D.ns [] rs)) ∧ (¬ pathProp gd path → go (nextP i dst path .any [] 0 D.ns [] rs)) := by
 cases path with
 | nil =>
  obtain ⟨h1, h2⟩ := h
  exact ⟨allP_spec h1, fun _ x hx => goWay_spec (h2 x hx).out, fun hn => (hn trivial).elim⟩
 | cons e r =>
  obtain ⟨q, hq, hiff⟩ := condP_spec _ _ _ h
  exact ⟨allP_spec hq.1, fun hp x hx => goWay_spec ((hq.2.1 (hiff.2 ⟨hp, trivial⟩)).out x hx).out, fun hn => goSkip_spec (hq.2.2 (fun hqq => hn (hiff.1 hqq).1)).out⟩
theorem runOps_vc {P : Program} {c : Cf} (hS : SpecsOK P c.gl c.F c.nz) {y : Bool} {ops : List Oper} : ∀ (r : List Oper) (i : Nat) (rs : RS) (K : RS → Prop), runOps c y ops r i rs K → (∀ rsE, K rsE → ∀ p ∈ rsE.vc, p) → ∀ p ∈ rs.vc, p
 | [], i, rs, K, h, hK => hK rs h
 | o :: r, i, ⟨sl, hp, nx, gd, vc, tr, wr⟩, K, h, hK => by
  unfold runOps at h
  split at h
  · rename_i path hpa hd
    split at h
    · obtain ⟨q, hq, hiff⟩ := condP_spec _ _ _ h
      have := runOps_vc hS r (i + 1) _ K (goSkip_spec hq.2.out) hK
      exact this
    · split at h
      · obtain ⟨vc', h2, h3⟩ := impAll_spec _ _ _ h
        exact (h3 (goDyn_spec h2).1).1
      · obtain ⟨vc1, ws0, ns, hev0, h1⟩ := stepA_ev (rs := ⟨sl, hp, nx, gd, vc, tr, wr⟩) h
        obtain ⟨ws, hws⟩ : ∃ ws, ws = Gv.splitW c.spl o.dst ws0 := ⟨_, rfl⟩
        have hev := hev0.splitW c.spl o.dst
        rw [← hws] at h1 hev
        obtain ⟨vc', h2, h3⟩ := impAll_spec _ _ _ h1
        rcases goAll_spec h2 (fun hv hpp => ev_ways hS hev ((h3 hv).2 hpp)) with ⟨j, W, vc'', hj, hon, hk, hh, hgo, hvv⟩ | ⟨vc'', hnp, hgo, hvv⟩
        · have := runOps_vc hS r (i + 1) _ K hgo hK
          exact (h3 (hvv this)).1
        · have := runOps_vc hS r (i + 1) _ K hgo hK
          exact (h3 (hvv this)).1
  · exact h.elim
theorem runOps_step {P : Program} {c : Cf} (hS : SpecsOK P c.gl c.F c.nz) {y : Bool} {ops : List Oper} {o : Oper} {r : List Oper} {i : Nat} {rs : RS} {K : RS → Prop} (h : runOps c y ops (o :: r) i rs K) (hK : ∀ rsE, K rsE → ∀ p ∈ rsE.vc, p) :
    ∃ path, pathOf rs.gd o = some path ∧ dstOK o.dst c.N = true ∧ ((∃ e vc, e.path = path ∧ Went c ops rs o e ∧ runOps c y ops r (i + 1) (nextP i o.dst e.path e.ap e.hw e.k e.ns vc rs) K) ∨
     ∃ D, dynB c y rs.slf rs.hpf rs.nx path o = some D ∧ (pathProp rs.gd path → (∀ p ∈ D.vc, p) ∧ ∀ x, D.ok x → keysOK D.ns rs.nx (D.W x).k (D.W x).hw = true ∧ runOps c y ops r (i + 1) (nextP i o.dst path (D.W x).ap (D.W x).hw (D.W x).k D.ns [] rs) K) ∧
      (¬ pathProp rs.gd path → runOps c y ops r (i + 1) (nextP i o.dst path .any [] 0 D.ns [] rs) K)) := by
 obtain ⟨sl, hp, nx, gd, vc, tr, wr⟩ := rs
 unfold runOps at h
 split at h
 · rename_i path hpa hd
   refine ⟨path, hpa, hd, ?_⟩
   split at h
   · obtain ⟨q, hq, hiff⟩ := condP_spec _ _ _ h
     have hnp : ¬ pathProp gd path := fun hpp => hq.1 (hiff.2 ⟨hpp, trivial⟩)
     exact .inl ⟨⟨path, .any, [], [], 0⟩, vc, rfl, .skip path [] hnp, goSkip_spec hq.2.out⟩
   · split at h
     · rename_i D hD
       obtain ⟨vc', h2, h3⟩ := impAll_spec _ _ _ h
       obtain ⟨g1, g2, g3⟩ := goDyn_spec h2
       exact .inr ⟨D, hD, fun hp => ⟨(h3 g1).2 hp, g2 hp⟩, g3⟩
     · obtain ⟨vc1, ws0, ns, hev0, h1⟩ := stepA_ev (rs := ⟨sl, hp, nx, gd, vc, tr, wr⟩) h
       obtain ⟨ws, hws⟩ : ∃ ws, ws = Gv.splitW c.spl o.dst ws0 := ⟨_, rfl⟩
       have hev := hev0.splitW c.spl o.dst
       rw [← hws] at h1 hev
       obtain ⟨vc', h2, h3⟩ := impAll_spec _ _ _ h1
       rcases goAll_spec h2 (fun hv hpp => ev_ways hS hev ((h3 hv).2 hpp)) with ⟨j, W, vc'', hj, hon, hk, hh, hgo, hvv⟩ | ⟨vc'', hnp, hgo, hvv⟩
       · have hvn := runOps_vc hS r (i + 1) _ K hgo hK
         have hv1 := h3 (hvv hvn)
         exact .inl ⟨⟨path, W.ap, W.hw, ns, W.k⟩, vc'', rfl, .way path vc1 ws ns W j hev hj hon hv1.2 hk hh, hgo⟩
       · exact .inl ⟨⟨path, .any, [], ns, 0⟩, vc'', rfl, .skip path ns hnp, hgo⟩
 · exact h.elim
end Go.Gv

/- One operation, run where the state agrees with that of the text on what the operation looks at. -/
namespace Go.Gv
open Go
mutual
theorem sat_res : ∀ (X : AP) {β : Asg} {G : GW} {v : Value} {ns l : List Nat}, (∀ h ∈ namesA X l, h ∈ ns) → sat X β G v → sat X (resB β ns) G v
 | .any, _, _, _, _, _, _, h => h
 | .dat t x, _, _, _, _, _, _, h => by unfold sat at h ⊢; exact h
 | .blit b, _, _, _, _, _, _, h => by unfold sat at h ⊢; exact h
 | .val u, _, _, _, _, _, _, h => by unfold sat at h ⊢; exact h
 | .agg cs, _, _, _, _, _, hn, h => by unfold sat at h ⊢; obtain ⟨l, e, h⟩ := h; exact ⟨l, e, satL_res cs hn h⟩
 | .nil, _, _, _, _, _, _, h => by unfold sat at h; exact h.elim
 | .cons _ _, _, _, _, _, _, _, h => by unfold sat at h; exact h.elim
 | .tup vs, _, _, _, _, _, hn, h => by unfold sat at h ⊢; obtain ⟨l, e, h⟩ := h; exact ⟨l, e, satT_res vs hn h⟩
 | .ptr t x, _, _, _, _, _, _, h => by unfold sat at h ⊢; exact h
 | .ref h, _, _, _, _, _, hn, hs => by unfold sat at hs ⊢; rw [resB_in (hn h (addN_mem.2 (.inl rfl)))]; exact hs
 | .loc h off, _, _, _, _, _, hn, hs => by unfold sat at hs ⊢; rw [resB_in (hn h (addN_mem.2 (.inl rfl)))]; exact hs
 | .rloc h i sz off, _, _, _, _, _, hn, hs => by unfold sat at hs ⊢; rw [resB_in (hn h (addN_mem.2 (.inl rfl)))]; exact hs
 | .dec p, _, _, _, _, _, _, h => by unfold sat at h ⊢; exact h
 | .nxt p, _, _, _, _, _, _, h => by unfold sat at h ⊢; exact h
 | .sl h t xs, _, _, _, _, _, hn, hs => by unfold sat at hs ⊢; rw [resB_in (hn h (addN_mem.2 (.inl rfl)))]; exact hs
 | .clos f caps, _, _, _, _, _, hn, h => by unfold sat at h ⊢; obtain ⟨l, e, h⟩ := h; exact ⟨l, e, satT_res caps hn h⟩
theorem satL_res : ∀ (X : AP) {β : Asg} {G : GW} {vs : List Value} {ns l : List Nat}, (∀ h ∈ namesA X l, h ∈ ns) → satL X β G vs → satL X (resB β ns) G vs
 | .nil, _, _, _, _, _, _, h => by unfold satL at h ⊢; exact h
 | .cons a b, _, _, _, _, _, hn, hs => by
  unfold satL at hs ⊢
  obtain ⟨v, l', e, o, h1, h2⟩ := hs
  exact ⟨v, l', e, o, sat_res a hn h1, satL_res b (fun h hm => hn h (namesA_mono a hm)) h2⟩
 | .any, _, _, _, _, _, _, h => by unfold satL at h; exact h.elim
 | .dat _ _, _, _, _, _, _, _, h => by unfold satL at h; exact h.elim
 | .blit _, _, _, _, _, _, _, h => by unfold satL at h; exact h.elim
 | .val _, _, _, _, _, _, _, h => by unfold satL at h; exact h.elim
 | .agg _, _, _, _, _, _, _, h => by unfold satL at h; exact h.elim
 | .tup _, _, _, _, _, _, _, h => by unfold satL at h; exact h.elim
 | .ptr _ _, _, _, _, _, _, _, h => by unfold satL at h; exact h.elim
 | .ref _, _, _, _, _, _, _, h => by unfold satL at h; exact h.elim
 | .loc _ _, _, _, _, _, _, _, h => by unfold satL at h; exact h.elim
 | .rloc _ _ _ _, _, _, _, _, _, _, h => by unfold satL at h; exact h.elim
 | .dec _, _, _, _, _, _, _, h => by unfold satL at h; exact h.elim
 | .nxt _, _, _, _, _, _, _, h => by unfold satL at h; exact h.elim
 | .sl _ _ _, _, _, _, _, _, _, h => by unfold satL at h; exact h.elim
 | .clos _ _, _, _, _, _, _, _, h => by unfold satL at h; exact h.elim
theorem satT_res : ∀ (X : AP) {β : Asg} {G : GW} {vs : List Value} {ns l : List Nat}, (∀ h ∈ namesA X l, h ∈ ns) → satT X β G vs → satT X (resB β ns) G vs
 | .nil, _, _, _, _, _, _, h => by unfold satT at h ⊢; exact h
 | .cons a b, _, _, _, _, _, hn, hs => by
  unfold satT at hs ⊢
  obtain ⟨v, l', e, h1, h2⟩ := hs
  exact ⟨v, l', e, sat_res a hn h1, satT_res b (fun h hm => hn h (namesA_mono a hm)) h2⟩
 | .any, _, _, _, _, _, _, h => by unfold satT at h; exact h.elim
 | .dat _ _, _, _, _, _, _, _, h => by unfold satT at h; exact h.elim
 | .blit _, _, _, _, _, _, _, h => by unfold satT at h; exact h.elim
 | .val _, _, _, _, _, _, _, h => by unfold satT at h; exact h.elim
 | .agg _, _, _, _, _, _, _, h => by unfold satT at h; exact h.elim
 | .tup _, _, _, _, _, _, _, h => by unfold satT at h; exact h.elim
 | .ptr _ _, _, _, _, _, _, _, h => by unfold satT at h; exact h.elim
 | .ref _, _, _, _, _, _, _, h => by unfold satT at h; exact h.elim
 | .loc _ _, _, _, _, _, _, _, h => by unfold satT at h; exact h.elim
 | .rloc _ _ _ _, _, _, _, _, _, _, h => by unfold satT at h; exact h.elim
 | .dec _, _, _, _, _, _, _, h => by unfold satT at h; exact h.elim
 | .nxt _, _, _, _, _, _, _, h => by unfold satT at h; exact h.elim
 | .sl _ _ _, _, _, _, _, _, _, h => by unfold satT at h; exact h.elim
 | .clos _ _, _, _, _, _, _, _, h => by unfold satT at h; exact h.elim
end
theorem closedB_spec {hp : Nat → HObj} {ns : List Nat} : ∀ {l : List Nat}, closedB hp ns l = true → ∀ h ∈ l, ∀ n ∈ namesO (hp h) [], n ∈ ns
 | [], _, h, hm => by cases hm
 | a :: r, hc, h, hm => by
  unfold closedB at hc
  split at hc
  · rename_i hs
    rcases List.mem_cons.1 hm with rfl | hm
    · exact subN_spec hs
    · exact closedB_spec hc h hm
  · cases hc
where
 subN_spec {ns : List Nat} : ∀ {l : List Nat}, subN ns l = true → ∀ n ∈ l, n ∈ ns
  | [], _, n, hm => by cases hm
  | a :: r, h, n, hm => by
   unfold subN at h
   split at h
   · rename_i ha
     rcases List.mem_cons.1 hm with rfl | hm
     · exact memN_iff.1 ha
     · exact subN_spec h n hm
   · cases h
theorem namesL_mono : ∀ (l : List AP) {acc : List Nat} {h : Nat}, h ∈ acc → h ∈ namesL l acc
 | [], _, _, hm => hm
 | X :: r, _, _, hm => namesA_mono X (namesL_mono r hm)
theorem namesL_at : ∀ (l : List AP) (i : Nat) (X : AP), l[i]? = some X → ∃ acc, ∀ h ∈ namesA X acc, h ∈ namesL l []
 | [], i, X, h => by simp at h
 | Y :: r, 0, X, h => by simp at h; subst h; exact ⟨namesL r [], fun h hm => hm⟩
 | Y :: r, i + 1, X, h => by
  obtain ⟨acc, ha⟩ := namesL_at r i X (by simpa using h)
  exact ⟨acc, fun h hm => namesA_mono Y (ha h hm)⟩
theorem restrict_of {C : Ctx} {hp : Nat → HObj} {β : Asg} {G : GW} (H : HInv C hp β G) {ns : List Nat} (hc : closedB hp ns ns = true) : HInv (resC C hp β G ns) (resH hp ns) (resB β ns) G :=
 H.restrict ns fun h hm v _ hs => by
  cases ho : hp h with
  | box cs =>
   rw [ho] at hs
   obtain ⟨b, l, e, h1, h2⟩ := hs
   refine ⟨b, l, e, satL_res cs (l := []) (fun n hn => closedB_spec hc h hm n ?_) h1, h2⟩
   rw [ho]; exact hn
  | _ => rw [ho] at hs; exact hs
theorem closedB_congr {hp hp' : Nat → HObj} {ns : List Nat} : ∀ {l : List Nat}, (∀ n ∈ l, hp' n = hp n) → closedB hp' ns l = closedB hp ns l
 | [], _ => rfl
 | a :: r, h => by
  unfold closedB
  rw [h a List.mem_cons_self, closedB_congr (fun n hn => h n (List.mem_cons_of_mem _ hn))]
theorem keysOK_spec {ns : List Nat} {nx k : Nat} : ∀ {hw : List (Nat × HObj)}, keysOK ns nx k hw = true → ∀ h ∈ keysH hw, h < nx + k ∧ (h ∈ ns ∨ nx ≤ h)
 | [], _, h, hm => by simp [keysH] at hm
 | (a, o) :: r, hk, h, hm => by
  unfold keysOK at hk
  split at hk
  · rename_i hlt
    have hlt : a < nx + k := by unfold Nat.blt at hlt; exact Nat.le_of_ble_eq_true hlt
    simp only [keysH, List.map_cons, List.mem_cons] at hm
    split at hk
    · rename_i hmem
      rcases hm with rfl | hm
      · exact ⟨hlt, .inl (memN_iff.1 hmem)⟩
      · exact keysOK_spec hk h hm
    · split at hk
      · rename_i hle
        rcases hm with rfl | hm
        · exact ⟨hlt, .inr (Nat.le_of_ble_eq_true hle)⟩
        · exact keysOK_spec hk h hm
      · cases hk
  · cases hk
theorem constAP_sat {β : Asg} {G : GW} (v : Value) : sat (constAP v) β G v := by
 unfold constAP
 split
 · rename_i k n
   split
   · rename_i h
     unfold inR at h
     simp only [Bool.and_eq_true, decide_eq_true_eq] at h
     exact sat_int (has_iff.2 h)
   · unfold sat; trivial
 · unfold sat; rfl
 · rename_i s
   split
   · rename_i h
     have hl := Nat.le_of_ble_eq_true h
     have : sat (.dat .str s.data.toList) β G (strV s.data.toList) := sat_str (Nat.le_trans hl (by simp only [maxLen]; omega))
     have e : strV s.data.toList = .string s := by unfold strV; cases s; rfl
     rwa [e] at this
   · unfold sat; trivial
 · unfold sat; rfl
theorem inPath_spec {p : Path} {j : Nat} {w : Bool} (h : inPath p j w = true) : (j, w) ∈ p := by
 induction p with
 | nil => simp [inPath] at h
 | cons e r ih =>
  obtain ⟨k, v⟩ := e
  simp only [inPath] at h
  split at h
  · rename_i h1 h2
    have h1 := Nat.eq_of_beq_eq_true h1
    have h2 : v = w := by cases v <;> cases w <;> first | rfl | cases h2
    subst h1; subst h2; exact List.mem_cons_self
  · exact List.mem_cons_of_mem _ (ih h)
theorem subPath_spec : ∀ {a b : Path}, subPath a b = true → ∀ e ∈ a, e ∈ b
 | [], _, _, e, hm => by cases hm
 | (j, w) :: r, b, h, e, hm => by
  simp only [subPath] at h
  split at h
  · rename_i hi
    rcases List.mem_cons.1 hm with rfl | hm
    · exact inPath_spec hi
    · exact subPath_spec h e hm
  · cases h
theorem opA_sat {gl : Glob} {C : Ctx} (hg : C.glob = gl) {γ : Nat → Bool} {sl : Nat → PA} {sl' : Nat → PA} {hp' : Nat → HObj} {β : Asg} {a : Act} {G : GW} (H : Holds C γ ⟨sl', hp'⟩ β a G) {path : Path} (hp : pathOK γ path) (x : Operand) (hx : ∀ t, x = .tmp t → sl' t = sl t) :
    sat (opA gl sl path x) β G (a.eval x) := by
 cases x with
 | tmp t =>
  have hxt := hx t rfl
  show sat (match subPath (sl t).path path with | true => ptA (sl t).ap | false => .any) β G (a.tmps.getD t undef)
  rw [← hxt]
  cases hs : subPath (sl' t).path path with
  | true => exact ptA_sat <| (H.slots t).1 fun e he => hp e (subPath_spec hs e he)
  | false => unfold sat; trivial
 | const v => exact constAP_sat v
 | func f =>
  unfold opA sat
  exact ⟨[], rfl, by unfold satT; rfl⟩
 | global g =>
  show sat (match gl g with | some ⟨t, x⟩ => .ptr t x | none => .any) β G (.pointer (some ⟨g, 0, none⟩))
  cases he : gl g with
  | none => unfold sat; trivial
  | some p =>
   obtain ⟨t, y⟩ := p
   exact (H.inv.glob g t y (by rw [hg]; exact he)).sat β
theorem opnds_sub (op : Op) : ∀ x ∈ opnds op, x ∈ op.operands.toList := by
 cases op <;> intro x hx <;> simp only [opnds] at hx <;> try (simp_all [Op.operands]; done)
 · rename_i t r; cases r <;> simp_all [Op.operands]
 · rename_i t x' l h m
   cases l <;> cases h <;> cases m <;> simp_all [Op.operands]
 · rename_i c
   cases c with
   | mk callee args ats => cases callee <;> simp_all [Op.operands, Call.operands]
theorem callee_sub {op : Op} {f : Operand} (h : calleeOf op = some f) : f ∈ op.operands.toList := by
 unfold calleeOf at h
 split at h
 · simp only [Option.some.injEq] at h; subst h; simp [Op.operands, Call.operands]
 · cases h
end Go.Gv

/- Each operation that the generator has walked goes as it says. -/
namespace Go.Gv
open Go
theorem tmpOf_mono (x : Operand) {l : List Nat} {t : Nat} (h : t ∈ l) : t ∈ tmpOf x l := by
 cases x <;> first | exact List.mem_cons_of_mem _ h | exact h
theorem tmps_mem : ∀ (l : List Operand) {t : Nat}, Operand.tmp t ∈ l → t ∈ l.foldr tmpOf []
 | [], t, h => by cases h
 | x :: r, t, h => by
  simp only [List.foldr_cons]
  rcases List.mem_cons.1 h with e | h
  · rw [← e]; exact List.mem_cons_self
  · exact tmpOf_mono x (tmps_mem r h)
theorem reads_mem (ops : List Oper) (o : Oper) {t : Nat} (h : Operand.tmp t ∈ o.op.operands.toList) : t ∈ readsOf ops o := by
 have h1 := tmps_mem _ h
 unfold readsOf
 split
 · split
   · split
     · exact List.mem_cons_of_mem _ h1
     · exact h1
   · exact h1
 · exact h1
@[reducible] def WF (r : Option Nat) : Fence := { Fence.wide with round := r }
def OpGood (P : Program) (C : Ctx) (Q : Exit → Act → World → Prop) (γ : Nat → Bool) (ops : List Oper) (o : Oper) (sl : Nat → PA) (hp : Nat → HObj) (e : TE) : Prop :=
 ∀ (r : Option Nat) (a : Act) (β : Asg) (G : GW) (sl' : Nat → PA) (hp' : Nat → HObj), (∀ s ∈ readsOf ops o, sl' s = sl s) → (∀ h, h ∈ e.ns ∨ h ∈ keysH e.hw → hp' h = hp h) → Holds C γ ⟨sl', hp'⟩ β a G → pathOK γ e.path →
  ∀ K : Act → World → Prop, (∀ v β' G', HInv C (hset hp' e.hw) β' G' → β.le β' → G.le G' → sat e.ap β' G' v → K (a.put o.dst v) G'.w) → o.wpIn (WF r) 0 P a G.w K Q
theorem semAt_nd {o : Oper} (h : ∀ c, o.op ≠ .defer c) {r : Option Nat} {ρ : Operand → Value} : Oper.semAt (WF r).round ρ o = execOp ρ o := by
 cases r with
 | none => exact Oper.semAt_none _ _
 | some l => exact Oper.semAt_some l _ _ h
theorem wp_of_run {P : Program} {o : Oper} {a : Act} {w w' : World} {n : Next} {v : Value} {K : Act → World → Prop} {Q : Exit → Act → World → Prop} {r : Option Nat} (hnd : ∀ c, o.op ≠ .defer c) (hr : (execOp a.eval o).run P w = .ok n w') (hn : n = .value v ∨ (n = .skip ∧ v = undef)) (hK : K (a.put o.dst v) w') : o.wpIn (WF r) 0 P a w K Q := by
 refine ⟨fun _ _ => trivial, ?_⟩
 rw [semAt_nd hnd, hr]
 rcases hn with rfl | ⟨rfl, rfl⟩
 · exact hK
 · exact hK
theorem frame_back {C : Ctx} {hp : Nat → HObj} {β : Asg} {G : GW} (H : HInv C hp β G) {ns : List Nat} {hw : List (Nat × HObj)} {β1 : Asg} {G1 : GW} (H1 : HInv (resC C hp β G ns) (hset (resH hp ns) hw) β1 G1) (hle : (resB β ns).le β1)
    (hfr : ∀ h ∈ keysH hw, h ∉ ns → hp h = .none) : ∃ β2, HInv C (hset hp hw) β2 G1 ∧ β.le β2 ∧ β1.le β2 :=
 H.frame H1 hle (hset hp hw) (ks := keysH hw) (fun h hh => by
  by_cases hk : h ∈ keysH hw
  · exact hset_mem hk
  · rw [hset_not hk, hset_not hk, resH_in (hh.resolve_right hk)]) (fun h hh => by
  have hk : h ∉ keysH hw := fun e => hh (.inr e)
  have hn : h ∉ ns := fun e => hh (.inl e)
  exact ⟨hset_not hk, by rw [hset_not hk, resH_out hn]⟩) hfr
theorem opGood_op {P : Program} {c : Cf} (hE : c.E.ok P = true) {C : Ctx} (hg : GlobIs C c) {Q : Exit → Act → World → Prop} {γ : Nat → Bool} {ops : List Oper} {o : Oper} {rs : RS} (hfr : ∀ n, rs.nx ≤ n → rs.hpf n = .none) {path : Path} {ns : List Nat} {vc : List Prop} {ap : AP} {hw : List (Nat × HObj)} {k : Nat}
    (h4 : closedB rs.hpf ns ns = true) (h6 : ∀ h ∈ namesL ((opnds o.op).map (opA c.gl rs.slf path)) [], h ∈ ns) (h5 : evalOp c.E (resH rs.hpf ns) rs.nx (nonEmpty path) o.dst o.op ((opnds o.op).map (opA c.gl rs.slf path)) = some ⟨vc, ap, hw, k⟩)
    (hk : keysOK ns rs.nx k hw = true) (hv : ∀ p ∈ vc, p) : OpGood P C Q γ ops o rs.slf rs.hpf ⟨path, ap, hw, ns, k⟩ := by
 intro r a β G sl' hp' hsl hhp H hpath K hK
 have hres : resH hp' ns = resH rs.hpf ns := resH_congr fun n hn => hhp n (.inl hn)
 have hcl : closedB hp' ns ns = true := by rw [closedB_congr fun n hn => hhp n (.inl hn)]; exact h4
 have Hr := restrict_of H.inv hcl
 rw [← hres] at h5
 have hn : resH hp' ns rs.nx = .none := by
  by_cases hm : rs.nx ∈ ns
  · rw [resH_in hm, hhp _ (.inl hm)]; exact hfr _ (Nat.le_refl _)
  · exact resH_out hm
 have hrun := evalOp_sound (P := P) hE (a := a) (o := o) Hr hn h5 hv (by rw [List.length_map]) (fun i X hX => by
  rw [List.getElem?_map, Option.map_eq_some_iff] at hX
  obtain ⟨x, hx, rfl⟩ := hX
  refine ⟨x, hx, ?_⟩
  obtain ⟨acc, hacc⟩ := namesL_at ((opnds o.op).map (opA c.gl rs.slf path)) i _ (by rw [List.getElem?_map, hx]; rfl)
  refine sat_res _ (fun h hm => h6 h (hacc h hm)) (opA_sat hg.eq H hpath x fun t ht => hsl t (reads_mem ops o ?_))
  subst ht
  exact opnds_sub _ _ (List.mem_of_getElem? hx))
 obtain ⟨n, v, β1, G1, hr, hnv, H1, hb1, hg1, hs1⟩ := hrun
 obtain ⟨β2, H2, hb2, hb12⟩ := frame_back H.inv H1 hb1 (fun h hm hn => by
  obtain ⟨q1, q2⟩ := keysOK_spec hk h hm
  show hp' h = .none
  rw [hhp h (.inr hm)]; exact hfr h (q2.resolve_left hn))
 exact wp_of_run (fun c hc => by rw [hc] at h5; exact absurd h5 (by simp [evalOp])) hr hnv (hK v β2 G1 H2 hb2 hg1 (sat.mono ap hs1 hb12 G1.le_refl))
theorem unlistA_spec : ∀ {X : AP} {l : List AP}, unlistA X = some l → listA l = X
 | .nil, l, h => by simp only [unlistA, Option.some.injEq] at h; subst h; rfl
 | .cons a b, l, h => by
  unfold unlistA at h
  split at h
  · rename_i l' hl
    simp only [Option.some.injEq] at h; subst h
    show AP.cons a (listA l') = _
    rw [unlistA_spec hl]
  · cases h
 | .any, _, h => by cases h
 | .dat _ _, _, h => by cases h
 | .blit _, _, h => by cases h
 | .val _, _, h => by cases h
 | .agg _, _, h => by cases h
 | .tup _, _, h => by cases h
 | .ptr _ _, _, h => by cases h
 | .ref _, _, h => by cases h
 | .loc _ _, _, h => by cases h
 | .rloc _ _ _ _, _, h => by cases h
 | .dec _, _, h => by cases h
 | .nxt _, _, h => by cases h
 | .sl _ _ _, _, h => by cases h
 | .clos _ _, _, h => by cases h
theorem satT_append {β : Asg} {G : GW} : ∀ {l m : List AP} {u v : List Value}, satT (listA l) β G u → satT (listA m) β G v → satT (listA (l ++ m)) β G (u ++ v)
 | [], m, u, v, h, h' => by unfold listA satT at h; subst h; exact h'
 | X :: l, m, u, v, h, h' => by
  unfold listA satT at h
  obtain ⟨w, u', rfl, h1, h2⟩ := h
  unfold listA satT
  exact ⟨w, u' ++ v, rfl, h1, satT_append h2 h'⟩
theorem satT_map {gl : Glob} {β : Asg} {G : GW} {sl : Nat → PA} {path : Path} {a : Act} : ∀ (l : List Operand), (∀ x ∈ l, sat (opA gl sl path x) β G (a.eval x)) → satT (listA (l.map (opA gl sl path))) β G (l.map a.eval)
 | [], _ => by unfold List.map listA satT; rfl
 | x :: r, h => by
  show satT (.cons (opA gl sl path x) (listA (r.map (opA gl sl path)))) β G (a.eval x :: r.map a.eval)
  unfold satT
  exact ⟨_, _, rfl, h x List.mem_cons_self, satT_map r (fun y hy => h y (List.mem_cons_of_mem _ hy))⟩
theorem namesA_listA : ∀ (l : List AP) (acc : List Nat), namesA (listA l) acc = namesL l acc
 | [], _ => rfl
 | X :: r, acc => by
  show namesA X (namesA (listA r) acc) = namesA X (namesL r acc)
  rw [namesA_listA r acc]
theorem calA_sat {X : AP} {β : Asg} {G : GW} {v : Value} (h : sat X β G v) : sat (calA X) β G v := by
 unfold calA
 split
 · rcases fn_sat h with ⟨h1, _⟩ | ⟨g, h1, rfl⟩
   · cases h1
   · cases h1
     unfold sat
     exact ⟨[], rfl, by unfold satT; rfl⟩
 · exact h
theorem call_exec {P : Program} {g : Nat} {fn : Func} (hf : P.funcs[g]? = some fn) (hb : fn.body.isNone = false) (hnm : (fn.name == "runtime.NumGoroutine") = false) {o : Oper} {f : Operand} (ho : calleeOf o.op = some f) {ρ : Operand → Value} {caps : Array Value} (hρ : ρ f = .func (.func g) #[] caps) (w : World) :
    (execOp ρ o).run P w = .ok (.enter g (((opnds o.op).map ρ).toArray ++ caps)) w := by
 obtain ⟨dst, op, type, pos, after, guard⟩ := o
 dsimp only at ho ⊢
 unfold calleeOf at ho
 split at ho
 · rename_i f' args ats
   simp only [Option.some.injEq] at ho; subst ho
   have e : (args.toList.map ρ).toArray = args.map ρ := by
    apply Array.ext'
    simp only [Array.toList_map]
   have e2 : ((opnds (Op.call { callee := .value f', args := args, argTypes := ats })).map ρ).toArray = args.map ρ := e
   rw [e2]
   have hnm' : fn.name ≠ "runtime.NumGoroutine" := by simpa using hnm
   have hb' : fn.body ≠ none := by intro e; rw [e] at hb; cases hb
   simp [execOp, resolve, Deferred.ofValue, hρ, invoke, callFunc, hf, hb', hnm']
 · cases ho
theorem opGood_call {P : Program} {c : Cf} (hS : SpecsOK P c.gl c.F c.nz) {C : Ctx} (hg : GlobIs C c) {Q : Exit → Act → World → Prop} {γ : Nat → Bool} {ops : List Oper} {o : Oper} {rs : RS} (hfr : ∀ n, rs.nx ≤ n → rs.hpf n = .none) {path : Path} {f : Operand} {g : Nat} {caps : AP} {l : List AP} {ns : List Nat} {pre : Prop} {ws : List Way}
    (h1 : calleeOf o.op = some f) (h2 : calA (opA c.gl rs.slf path f) = .clos g caps) (h3 : unlistA caps = some l)
    (h4 : closedB rs.hpf ns ns = true) (h6 : ∀ h ∈ namesL ((opnds o.op).map (opA c.gl rs.slf path) ++ l) [], h ∈ ns) (h5 : callAny (resH rs.hpf ns) rs.nx ((opnds o.op).map (opA c.gl rs.slf path) ++ l) (c.F g) = some (pre, ws))
    (hpre : pre) {j : Nat} {W : Way} (hj : ws[j]? = some W) (hon : ws.length ≠ 1 → W.on) (hk : keysOK ns rs.nx W.k W.hw = true) : OpGood P C Q γ ops o rs.slf rs.hpf ⟨path, W.ap, W.hw, ns, W.k⟩ := by
 intro r a β G sl' hp' hsl hhp H hpath K hK
 have hres : resH hp' ns = resH rs.hpf ns := resH_congr fun n hn => hhp n (.inl hn)
 have hcl : closedB hp' ns ns = true := by rw [closedB_congr fun n hn => hhp n (.inl hn)]; exact h4
 have Hr := restrict_of H.inv hcl
 rw [← hres] at h5
 have hn : ∀ n, rs.nx ≤ n → resH hp' ns n = .none := fun n hle => by
  by_cases hm : n ∈ ns
  · rw [resH_in hm, hhp _ (.inl hm)]; exact hfr _ hle
  · exact resH_out hm
 have hsf := opA_sat hg.eq H hpath f (fun t ht => hsl t (reads_mem ops o (by rw [← ht]; exact callee_sub h1)))
 have hsf := calA_sat hsf
 rw [h2] at hsf
 unfold sat at hsf
 obtain ⟨cv, hcv, hcs⟩ := hsf
 have hargs : satT (listA ((opnds o.op).map (opA c.gl rs.slf path) ++ l)) β G ((opnds o.op).map a.eval ++ cv) :=
  satT_append (satT_map _ fun x hx => opA_sat hg.eq H hpath x fun t ht => hsl t (reads_mem ops o (by rw [← ht]; exact opnds_sub _ _ hx))) (by rw [unlistA_spec h3]; exact hcs)
 have hargs' := satT_res (listA ((opnds o.op).map (opA c.gl rs.slf path) ++ l)) (ns := ns) (l := []) (fun h hm => h6 h (by rw [← namesA_listA]; exact hm)) hargs
 obtain ⟨S, hm, hc⟩ := callAny_of h5
 have hSg := (hS g S hm).1
 obtain ⟨fn, hf, hb, hnm⟩ := hSg.1
 obtain ⟨i, W0, hi, hon0, huniq, hcalls⟩ := callA_run hSg hc hpre Hr hn (by exact hg.eq) (fun h => by show G.nz; rw [H.inv.step.nz]; exact hg.nz ((hS g S hm).2 h)) hargs'
 have hWW := huniq j W hj hon
 subst hWW
 refine ⟨fun _ _ => trivial, ?_⟩
 rw [semAt_nd (fun c hc => by rw [hc] at h1; cases h1), call_exec hf hb hnm h1 hcv]
 have e : ((opnds o.op).map a.eval).toArray ++ cv.toArray = ((opnds o.op).map a.eval ++ cv).toArray := by simp
 rw [e]
 refine ⟨fun h => (by cases h), CallsIn.mono (callsIn_wide.2 hcalls : CallsIn Fence.wide 0 P g _ G.w _) fun en w' hr => ?_⟩
 cases en with
 | panicked _ => exact hr.elim
 | outgrown => exact hr.elim
 | returned v =>
  obtain ⟨β1, G1, rfl, H1, hb1, hg1, hs1⟩ := hr
  obtain ⟨β2, H2, hb2, hb12⟩ := frame_back H.inv H1 hb1 (fun h hm hn => by
   obtain ⟨q1, q2⟩ := keysOK_spec hk h hm
   show hp' h = .none
   rw [hhp h (.inr hm)]; exact hfr h (q2.resolve_left hn))
  exact hK v β2 G1 H2 hb2 hg1 (sat.mono W.ap hs1 hb12 G1.le_refl)
end Go.Gv
