/- A verified generator of conditions over the code of the model. Part 4. -/
import Derived.Test.YtklcfpomppgblaaGreatDoorGc
set_option linter.all false

/- Shapes of what is handed over, contracts, the run over a region, the generator over a body: definitions. -/
namespace Go.Gv
open Go
inductive Sh where
 | d (t : Ty)
 | row (t : Ty)
 | take (t : Ty)
 | spare (t : Ty)
 | map (k v : Ty)
 | ob (κ : Kind)
 | box (cs : Sh)
 | clos (f : Nat) (cs : Sh)
 | agg (cs : Sh)
 | self (f : Nat) (cs : Sh)
 | nilp
 | nils
 | nil
 | cons (a b : Sh)
@[reducible] def SDat : Sh → Type
 | .d t => Dat t
 | .row t => List (Dat t)
 | .take t => List (Dat t)
 | .spare t => List (Dat t)
 | .map k v => List (Dat k × Dat v)
 | .ob κ => ObDat κ
 | .box cs => SDat cs
 | .clos _ cs => SDat cs
 | .agg cs => SDat cs
 | .self _ cs => SDat cs
 | .nilp => Unit
 | .nils => Unit
 | .nil => Unit
 | .cons a b => SDat a × SDat b
def nn : Sh → Nat
 | .d _ => 0
 | .row _ => 1
 | .take _ => 1
 | .spare _ => 1
 | .map _ _ => 1
 | .ob _ => 1
 | .box cs => nn cs + 1
 | .clos _ cs => nn cs
 | .agg cs => nn cs
 | .self _ cs => nn cs + 1
 | .nilp => 0
 | .nils => 0
 | .nil => 0
 | .cons a b => nn a + nn b
def lstS : Sh → Bool
 | .nil => true
 | .cons _ b => lstS b
 | .self _ _ => true
 | _ => false
def snocA : AP → AP → AP
 | .cons a b, y => .cons a (snocA b y)
 | _, y => .cons y .nil
def unsnocA : AP → Option (AP × AP)
 | .cons a .nil => some (.nil, a)
 | .cons a b => match unsnocA b with
  | some (i, l) => some (.cons a i, l)
  | none => none
 | _ => none
def eqLocs : AP → AP → Bool
 | .nil, .nil => true
 | .cons (.loc h o) r, .cons (.loc k p) s => match Nat.beq h k, Nat.beq o p with
  | true, true => eqLocs r s
  | _, _ => false
 | _, _ => false
def intoA (nm : Nat → Nat) : (s : Sh) → SDat s → Nat → AP
 | .d t, x, _ => .dat t x
 | .row _, _, n => .ref (nm n)
 | .take _, _, n => .ref (nm n)
 | .spare t, xs, n => .sl (nm n) t xs
 | .map _ _, _, n => .ref (nm n)
 | .ob _, _, n => .ref (nm n)
 | .box _, _, n => .loc (nm n) 0
 | .clos f cs, x, n => .clos f (intoA nm cs x n)
 | .agg cs, x, n => .agg (intoA nm cs x n)
 | .self _ cs, x, n => snocA (intoA nm cs x (n + 1)) (.loc (nm n) 0)
 | .nilp, _, _ => .val (.pointer none)
 | .nils, _, _ => .val (.slice none 0 0)
 | .nil, _, _ => .nil
 | .cons a b, x, n => .cons (intoA nm a x.1 n) (intoA nm b x.2 (n + nn a))
def intoH (nm : Nat → Nat) : (s : Sh) → SDat s → Nat → List (Nat × HObj) → List (Nat × HObj)
 | .d _, _, _, r => r
 | .row t, xs, n, r => (nm n, .row t xs) :: r
 | .take t, xs, n, r => (nm n, .row t xs) :: r
 | .spare t, _, n, r => (nm n, .spare t) :: r
 | .map k v, m, n, r => (nm n, .map k v m) :: r
 | .ob κ, x, n, r => (nm n, .ob κ x) :: r
 | .box cs, x, n, r => (nm n, .box (intoA nm cs x (n + 1))) :: intoH nm cs x (n + 1) r
 | .clos _ cs, x, n, r => intoH nm cs x n r
 | .agg cs, x, n, r => intoH nm cs x n r
 | .self f cs, x, n, r => (nm n, .box (.cons (.clos f (snocA (intoA nm cs x (n + 1)) (.loc (nm n) 0))) .nil)) :: intoH nm cs x (n + 1) r
 | .nilp, _, _, r => r
 | .nils, _, _, r => r
 | .nil, _, _, r => r
 | .cons a b, x, n, r => intoH nm a x.1 n (intoH nm b x.2 (n + nn a) r)
structure Fr (α : Type) where
 x : α
 ns : List Nat
 ex : List (Nat × HObj)
 nx : Nat
def castOb (κ κ' : Kind) (x : ObDat κ) : Option (ObDat κ') := if h : κ = κ' then h ▸ some x else none
noncomputable def fromA (hp : Nat → HObj) : (s : Sh) → AP → Nat → Option (Fr (SDat s))
 | .d t, X, nx => match toDat hp t X with
  | some x => some ⟨x, [], [], nx⟩
  | none => none
 | .row t, X, nx => match X with
  | .ref h => match hp h with
   | .row u xs => match castDat (.sl u) (.sl t) xs with
    | some x => some ⟨x, [h], [], nx⟩
    | none => none
   | _ => none
  | .val (.slice none 0 0) => some ⟨[], [nx], [(nx, .row t [])], nx + 1⟩
  | _ => none
 | .take t, X, nx => match X with
  | .ref h => match hp h with
   | .row u xs => match castDat (.sl u) (.sl t) xs with
    | some x => some ⟨x, [h], [], nx⟩
    | none => none
   | _ => none
  | .val (.slice none 0 0) => some ⟨[], [nx], [(nx, .row t [])], nx + 1⟩
  | _ => none
 | .spare t, X, nx => match X with
  | .sl h u xs => match hp h with
   | .spare w => match castDat (.sl u) (.sl t) xs, decide (w = t) with
    | some x, true => some ⟨x, [h], [], nx⟩
    | _, _ => none
   | _ => none
  | .val (.slice none 0 0) => some ⟨[], [nx], [(nx, .spare t)], nx + 1⟩
  | _ => none
 | .map k v, X, nx => match X with
  | .ref h => match hp h with
   | .map a b m => match castDat (.mp a b) (.mp k v) m with
    | some x => some ⟨x, [h], [], nx⟩
    | none => none
   | _ => none
  | _ => none
 | .ob κ, X, nx => match X with
  | .ref h => match hp h with
   | .ob κ' x => match castOb κ' κ x with
    | some x => some ⟨x, [h], [], nx⟩
    | none => none
   | _ => none
  | _ => none
 | .box cs, X, nx => match X with
  | .loc h 0 => match hp h with
   | .box c => match fromA hp cs c nx with
    | some ⟨x, ns, ex, nx'⟩ => some ⟨x, h :: ns, ex, nx'⟩
    | none => none
   | _ => none
  | _ => none
 | .clos f cs, X, nx => match X with
  | .clos g c => match Nat.beq g f with
   | true => match fromA hp cs c nx with
    | some ⟨x, ns, ex, nx'⟩ => some ⟨x, ns, ex, nx'⟩
    | none => none
   | false => none
  | _ => none
 | .agg cs, X, nx => match X with
  | .agg c => match fromA hp cs c nx with
   | some ⟨x, ns, ex, nx'⟩ => some ⟨x, ns, ex, nx'⟩
   | none => none
  | _ => none
 | .self f cs, X, nx => match unsnocA X with
  | some (Y, .loc h 0) => match hp h with
   | .box (.cons (.clos g c) .nil) => match Nat.beq g f, eqLocs c X with
    | true, true => match fromA hp cs Y nx, lstS cs with
     | some ⟨x, ns, ex, nx'⟩, true => some ⟨x, h :: ns, ex, nx'⟩
     | _, _ => none
    | _, _ => none
   | _ => none
  | _ => none
 | .nilp, X, nx => match X with
  | .val (.pointer none) => some ⟨(), [], [], nx⟩
  | _ => none
 | .nils, X, nx => match X with
  | .val (.slice none 0 0) => some ⟨(), [], [], nx⟩
  | _ => none
 | .nil, X, nx => match X with
  | .nil => some ⟨(), [], [], nx⟩
  | _ => none
 | .cons a b, X, nx => match X with
  | .cons Y Z => match fromA hp a Y nx with
   | some ⟨x, ns, ex, nx1⟩ => match fromA hp b Z nx1 with
    | some ⟨y, ms, ey, nx2⟩ => some ⟨(x, y), ns ++ ms, ex ++ ey, nx2⟩
    | none => none
   | none => none
  | _ => none
def nodupN : List Nat → Bool
 | [] => true
 | a :: r => match memN r a with
  | true => false
  | false => nodupN r
def backS : Sh → Sh
 | .spare t => .d (.sl t)
 | .take _ => .nilp
 | .clos f cs => .clos f (backS cs)
 | .agg cs => .agg (backS cs)
 | .self f cs => .self f (backS cs)
 | .cons a b => .cons (backS a) (backS b)
 | s => s
def keepS : (s : Sh) → SDat s → SDat (backS s)
 | .d _, x => x
 | .row _, x => x
 | .take _, _ => ()
 | .spare _, x => x
 | .map _ _, x => x
 | .ob _, x => x
 | .box _, x => x
 | .clos _ cs, x => keepS cs x
 | .agg cs, x => keepS cs x
 | .self _ cs, x => keepS cs x
 | .nilp, x => x
 | .nils, x => x
 | .nil, x => x
 | .cons a b, x => (keepS a x.1, keepS b x.2)
def endAP : (s : Sh) → SDat s → Nat → AP
 | .d t, x, _ => .dat t x
 | .row _, _, n => .ref n
 | .take _, _, _ => .val (.pointer none)
 | .spare t, xs, _ => .dat (.sl t) xs
 | .map _ _, _, n => .ref n
 | .ob _, _, n => .ref n
 | .box _, _, n => .loc n 0
 | .clos f cs, x, n => .clos f (endAP cs x n)
 | .agg cs, x, n => .agg (endAP cs x n)
 | .self _ cs, x, n => snocA (endAP cs x (n + 1)) (.loc n 0)
 | .nilp, _, _ => .val (.pointer none)
 | .nils, _, _ => .val (.slice none 0 0)
 | .nil, _, _ => .nil
 | .cons a b, x, n => .cons (endAP a x.1 n) (endAP b x.2 (n + nn a))
def rootsA : Sh → Nat → List (Option Nat)
 | .row _, n => [some n]
 | .map _ _, n => [some n]
 | .ob _, n => [some n]
 | .box cs, n => some n :: List.replicate (nn cs) none
 | .clos _ cs, n => rootsA cs n
 | .agg cs, n => rootsA cs n
 | .self _ cs, n => some n :: rootsA cs (n + 1)
 | .cons a b, n => rootsA a n ++ rootsA b (n + nn a)
 | _, _ => []
def nmBack (R : List (Option Nat)) (ns : List Nat) (nx : Nat) (j : Nat) : Nat := match R.getD j none with
 | some k => ns.getD k 0
 | none => nx + j
def deadL : List Nat → List (Nat × HObj) → List (Nat × HObj)
 | [], r => r
 | h :: l, r => (h, .dead) :: deadL l r
structure Alt (ins : Sh) where
 outs : Sh
 res : SDat ins → SDat outs
 upd : SDat ins → SDat (backS ins) := keepS ins
structure Spec where
 ins : Sh
 pre : SDat ins → Prop
 sel : SDat ins → Nat := fun _ => 0
 alts : List (Alt ins)
 ro : Bool := false
 noisy : Bool := false
structure LSpec where
 ins : Sh
 pre : SDat ins → Prop
 X : Type
 ok : SDat ins → X → Prop
 alt : X → Alt ins
 noisy : Bool := false
abbrev Feed := (ts : List Ty) → (Eater → Prop) → List (TDat ts) → Eater → Prop
structure ItSpec where
 ts : List Ty
 caps : Sh
 pre : SDat caps → Prop
 seq : SDat caps → List (TDat ts)
 noisy : Bool := false
structure RS where
 sl : List (Nat × PA)
 hp : List (Nat × HObj)
 nx : Nat
 gd : List (Nat × (Prop × Path)) := []
 vc : List Prop := []
 tr : List (List Nat × List Nat) := []
 wr : List Nat := []
def RS.hpf (rs : RS) : Nat → HObj := fun h => match lookN rs.hp h with
 | some o => o
 | none => .none
def RS.slf (rs : RS) : Nat → PA := fun s => match lookN rs.sl s with
 | some p => p
 | none => ⟨[], .any⟩
def eqB : Bool → Bool → Bool
 | true, true => true
 | false, false => true
 | _, _ => false
def inPath (p : Path) (j : Nat) (w : Bool) : Bool := match p with
 | [] => false
 | (k, v) :: r => match Nat.beq k j, eqB v w with
  | true, true => true
  | _, _ => inPath r j w
def subPath : Path → Path → Bool
 | [], _ => true
 | (j, w) :: r, q => match inPath q j w with
  | true => subPath r q
  | false => false
def inR (k : IntKind) (n : Int) : Bool := decide (lo k ≤ n) && decide (n ≤ hi k)
def constAP : Value → AP
 | .int k n => match inR k n with
  | true => .dat (.int k) n
  | false => .any
 | .bool b => .blit b
 | .string s => match Nat.ble s.data.toList.length 1000000 with
  | true => .dat .str s.data.toList
  | false => .any
 | v => .val v
abbrev Glob := Nat → Option ((t : Ty) × Dat t)
def ptA : AP → AP
 | .dat (.pt t) (some x) => .ptr t x
 | .dat (.pt _) none => .val (.pointer none)
 | X => X
theorem ptA_sat {X : AP} {β : Asg} {G : GW} {v : Value} (h : sat X β G v) : sat (ptA X) β G v := by
 unfold ptA
 split
 · rename_i t x
   unfold sat at h ⊢
   have := h.to_one rfl
   unfold Rep at this
   obtain ⟨b, o, cells, e, h1, h2⟩ := this
   simp only [List.cons.injEq, and_true] at e
   exact ⟨b, o, cells, e, h1, h2⟩
 · rename_i t
   unfold sat at h ⊢
   have := h.to_one rfl
   unfold Rep at this
   simpa using this
 · exact h
theorem ptA_blit {X : AP} {b : Bool} (h : ptA X = .blit b) : X = .blit b := by
 unfold ptA at h
 split at h
 · cases h
 · cases h
 · exact h
theorem ptA_prop {X : AP} {p : Prop} (h : propOf (ptA X) = some p) : propOf X = some p := by
 unfold ptA at h
 split at h
 · cases h
 · cases h
 · exact h
def opA (gl : Glob) (sl : Nat → PA) (path : Path) : Operand → AP
 | .tmp t => match subPath (sl t).path path with
  | true => ptA (sl t).ap
  | false => .any
 | .const v => constAP v
 | .func f => .clos f .nil
 | .global g => match gl g with
  | some ⟨t, x⟩ => .ptr t x
  | none => .any
def impP (gd : List (Nat × (Prop × Path))) : Path → Prop → (Prop → Prop) → Prop
 | [], q, K => K q
 | (j, true) :: r, q, K => match lookN gd j with
  | some (p, _) => impP gd r (p → q) K
  | none => False
 | (j, false) :: r, q, K => match lookN gd j with
  | some (p, _) => impP gd r (¬ p → q) K
  | none => False
def impAll (gd : List (Nat × (Prop × Path))) (path : Path) : List Prop → List Prop → (List Prop → Prop) → Prop
 | [], acc, K => K acc
 | p :: r, acc, K => impP gd path p (fun q => impAll gd path r (q :: acc) K)
def condP (gd : List (Nat × (Prop × Path))) : Path → Prop → (Prop → Prop) → Prop
 | [], q, K => K q
 | (j, true) :: r, q, K => match lookN gd j with
  | some (p, _) => condP gd r (p ∧ q) K
  | none => False
 | (j, false) :: r, q, K => match lookN gd j with
  | some (p, _) => condP gd r (¬ p ∧ q) K
  | none => False
def lits : List Nat := [0, 1, 2, 3, 4, 5, 6, 7, 8, 9, 10, 11, 12, 13, 14, 15, 16, 17, 18, 19, 20, 21, 22, 23, 24, 25, 26, 27, 28, 29, 30, 31, 32, 33, 34, 35, 36, 37, 38, 39, 40, 41, 42, 43, 44, 45, 46, 47, 48, 49, 50, 51, 52, 53, 54, 55, 56, 57, 58, 59, 60, 61, 62, 63, 64, 65, 66, 67, 68, 69, 70, 71, 72, 73, 74, 75, 76, 77, 78, 79, 80, 81, 82, 83, 84, 85, 86, 87, 88, 89, 90, 91, 92, 93, 94, 95, 96, 97, 98, 99, 100, 101, 102, 103, 104, 105, 106, 107, 108, 109, 110, 111, 112, 113, 114, 115, 116, 117, 118, 119, 120, 121, 122, 123, 124, 125, 126, 127, 128, 129, 130, 131, 132, 133, 134, 135, 136, 137, 138, 139, 140, 141, 142, 143, 144, 145, 146, 147, 148, 149, 150, 151, 152, 153, 154, 155, 156, 157, 158, 159, 160, 161, 162, 163, 164, 165, 166, 167, 168, 169, 170, 171, 172, 173, 174, 175, 176, 177, 178, 179, 180, 181, 182, 183, 184, 185, 186, 187, 188, 189, 190, 191, 192, 193, 194, 195, 196, 197, 198, 199, 200, 201, 202, 203, 204, 205, 206, 207, 208, 209, 210, 211, 212, 213, 214, 215, 216, 217, 218, 219, 220, 221, 222, 223, 224, 225, 226, 227, 228, 229, 230, 231, 232, 233, 234, 235, 236, 237, 238, 239, 240, 241, 242, 243, 244, 245, 246, 247, 248, 249, 250, 251, 252, 253, 254, 255]
def nthL {α : Type} : List α → Nat → Option α
 | [], _ => none
 | a :: _, 0 => some a
 | _ :: r, n + 1 => nthL r n
def forceN (n : Nat) (K : Nat → Prop) : Prop := match nthL lits n with
 | some m => match Nat.beq m n with
  | true => K m
  | false => K n
 | none => K n
theorem forceN_eq (n : Nat) (K : Nat → Prop) : forceN n K = K n := by
 unfold forceN
 split
 · split
   · rename_i h; rw [Nat.eq_of_beq_eq_true h]
   · rfl
 · rfl
def appF {α : Type} : List α → List α → (List α → Prop) → Prop
 | [], r, K => K r
 | x :: l, r, K => appF l r (fun t => K (x :: t))
theorem appF_eq {α : Type} : ∀ (l r : List α) (K : List α → Prop), appF l r K = K (l ++ r)
 | [], _, _ => rfl
 | x :: l, r, K => by unfold appF; rw [appF_eq l r]; rfl
def forceA : AP → (AP → Prop) → Prop
 | .any, K => K .any
 | .dat t x, K => K (.dat t x)
 | .blit b, K => K (.blit b)
 | .val v, K => K (.val v)
 | .agg cs, K => forceA cs (fun c => K (.agg c))
 | .nil, K => K .nil
 | .cons h t, K => forceA h (fun h => forceA t (fun t => K (.cons h t)))
 | .tup vs, K => forceA vs (fun c => K (.tup c))
 | .ptr t x, K => K (.ptr t x)
 | .ref h, K => forceN h (fun h => K (.ref h))
 | .loc h o, K => forceN h (fun h => forceN o (fun o => K (.loc h o)))
 | .rloc h i s o, K => forceN h (fun h => K (.rloc h i s o))
 | .vw h k s, K => forceN h (fun h => K (.vw h k s))
 | .dec p, K => K (.dec p)
 | .nxt p, K => K (.nxt p)
 | .sl h t xs, K => forceN h (fun h => K (.sl h t xs))
 | .clos f c, K => forceA c (fun c => K (.clos f c))
theorem forceA_eq : ∀ (X : AP) (K : AP → Prop), forceA X K = K X := by
 intro X
 induction X with
 | agg cs ih => intro K; simp only [forceA, ih]
 | cons h t ih1 ih2 => intro K; simp only [forceA, ih1, ih2]
 | tup cs ih => intro K; simp only [forceA, ih]
 | clos f cs ih => intro K; simp only [forceA, ih]
 | _ => intro K; simp only [forceA, forceN_eq]
def forceL : List AP → (List AP → Prop) → Prop
 | [], K => K []
 | x :: r, K => forceA x (fun x => forceL r (fun r => K (x :: r)))
theorem forceL_eq : ∀ (l : List AP) (K : List AP → Prop), forceL l K = K l := by
 intro l
 induction l with
 | nil => intro K; rfl
 | cons x r ih => intro K; simp only [forceL, forceA_eq, ih]
def forceO : HObj → (HObj → Prop) → Prop
 | .box cs, K => forceA cs (fun c => K (.box c))
 | .none, K => K .none
 | .dead, K => K .dead
 | .spare t, K => K (.spare t)
 | .row t xs, K => K (.row t xs)
 | .frz t xs, K => K (.frz t xs)
 | .map k v m, K => K (.map k v m)
 | .frzb cs, K => forceA cs (fun c => K (.frzb c))
 | .ob κ x, K => K (.ob κ x)
theorem forceO_eq (o : HObj) (K : HObj → Prop) : forceO o K = K o := by
 cases o <;> simp only [forceO, forceA_eq]
def forceH : List (Nat × HObj) → (List (Nat × HObj) → Prop) → Prop
 | [], K => K []
 | (h, o) :: r, K => forceN h (fun h => forceO o (fun o => forceH r (fun r => K ((h, o) :: r))))
theorem forceH_eq : ∀ (l : List (Nat × HObj)) (K : List (Nat × HObj) → Prop), forceH l K = K l := by
 intro l
 induction l with
 | nil => intro K; rfl
 | cons x r ih => intro K; cases x; simp only [forceH, forceO_eq, forceN_eq, ih]
def forceNs : List Nat → (List Nat → Prop) → Prop
 | [], K => K []
 | h :: r, K => forceN h (fun h => forceNs r (fun r => K (h :: r)))
theorem forceNs_eq : ∀ (l : List Nat) (K : List Nat → Prop), forceNs l K = K l := by
 intro l
 induction l with
 | nil => intro K; rfl
 | cons x r ih => intro K; simp only [forceNs, forceN_eq, ih]
def forceS : List (Nat × PA) → (List (Nat × PA) → Prop) → Prop
 | [], K => K []
 | (s, ⟨p, ap⟩) :: r, K => forceN s (fun s => forceA ap (fun ap => forceS r (fun r => K ((s, ⟨p, ap⟩) :: r))))
theorem forceS_eq : ∀ (l : List (Nat × PA)) (K : List (Nat × PA) → Prop), forceS l K = K l := by
 intro l
 induction l with
 | nil => intro K; rfl
 | cons x r ih => intro K; obtain ⟨s, p, ap⟩ := x; simp only [forceS, forceA_eq, forceN_eq, ih]
def forceRS (rs : RS) (K : RS → Prop) : Prop := match rs with
 | ⟨sl, hp, nx, gd, vc, tr, wr⟩ => forceS sl (fun sl => forceH hp (fun hp => forceN nx (fun nx => forceNs wr (fun wr => K ⟨sl, hp, nx, gd, vc, tr, wr⟩))))
theorem forceRS_eq (rs : RS) (K : RS → Prop) : forceRS rs K = K rs := by
 cases rs; simp only [forceRS, forceS_eq, forceH_eq, forceN_eq, forceNs_eq]
def addN (l : List Nat) (n : Nat) : List Nat := match memN l n with
 | true => l
 | false => n :: l
def namesA : AP → List Nat → List Nat
 | .ref h, l => addN l h
 | .loc h _, l => addN l h
 | .rloc h _ _ _, l => addN l h
 | .vw h _ _, l => addN l h
 | .sl h _ _, l => addN l h
 | .agg c, l => namesA c l
 | .tup c, l => namesA c l
 | .clos _ c, l => namesA c l
 | .cons a b, l => namesA a (namesA b l)
 | _, l => l
def namesL : List AP → List Nat → List Nat
 | [], l => l
 | X :: r, l => namesA X (namesL r l)
def namesO : HObj → List Nat → List Nat
 | .box cs, l => namesA cs l
 | _, l => l
def reach1 (hp : Nat → HObj) : List Nat → List Nat → List Nat
 | [], l => l
 | h :: r, l => reach1 hp r (namesO (hp h) l)
def reachN (hp : Nat → HObj) : Nat → List Nat → List Nat
 | 0, l => l
 | n + 1, l => match l with
  | [] => []
  | h :: r => reachN hp n (reach1 hp (h :: r) (h :: r))
def subN (l : List Nat) : List Nat → Bool
 | [] => true
 | h :: r => match memN l h with
  | true => subN l r
  | false => false
def closedB (hp : Nat → HObj) (ns : List Nat) : List Nat → Bool
 | [] => true
 | h :: r => match subN ns (namesO (hp h) []) with
  | true => closedB hp ns r
  | false => false
def keysOK (ns : List Nat) (nx k : Nat) : List (Nat × HObj) → Bool
 | [] => true
 | (h, _) :: r => match Nat.blt h (nx + k) with
  | true => match memN ns h with
   | true => keysOK ns nx k r
   | false => match Nat.ble nx h with
    | true => keysOK ns nx k r
    | false => false
  | false => false
def closedL : AP → Bool
 | .nil => true
 | .cons (.dat _ _) r => closedL r
 | .cons (.blit _) r => closedL r
 | _ => false
def listOf : AP → List AP
 | .cons a b => a :: listOf b
 | _ => []
def frzCells (hp : Nat → HObj) : AP → List (Nat × HObj)
 | .cons (.ref h) r => match hp h with
  | .row t xs => (h, .frz t xs) :: frzCells hp r
  | _ => frzCells hp r
 | .cons _ r => frzCells hp r
 | _ => []
def frzArgs (hp : Nat → HObj) : Sh → List AP → List (Nat × HObj)
 | .cons (.d _) s, .ref h :: r => match hp h with
  | .row t xs => (h, .frz t xs) :: frzArgs hp s r
  | _ => frzArgs hp s r
 | .cons (.d (.pt _)) s, .loc h _ :: r => match hp h with
  | .box cs => match closedL cs with
   | true => (h, .frzb cs) :: frzArgs hp s r
   | false => frzArgs hp s r
  | _ => frzArgs hp s r
 | .cons (.ob (.fm _ _)) s, .ref h :: r => match hp h with
  | .map k v m => (h, .ob (.fm k v) m) :: frzArgs hp s r
  | _ => frzArgs hp s r
 | .cons (.clos _ cs) s, .clos _ caps :: r => frzArgs hp cs (listOf caps) ++ frzArgs hp s r
 | .cons (.d _) s, .agg cs :: r => frzCells hp cs ++ frzArgs hp s r
 | .cons _ s, _ :: r => frzArgs hp s r
 | _, _ => []
def listA' : List AP → AP := listA
def resA : (s : Sh) → SDat s → Nat → AP
 | .nil, _, _ => .tup .nil
 | .self _ _, _, _ => .any
 | .cons a .nil, x, nx => intoA (fun k => nx + k) a x.1 0
 | s, x, nx => .tup (intoA (fun k => nx + k) s x 0)
@[reducible] def bk (ro : Bool) (s : Sh) : Sh := match ro with
 | true => s
 | false => backS s
def bkEnd (ro : Bool) (s : Sh) (x : SDat s) : AP := match ro with
 | true => intoA (fun k => k) s x 0
 | false => endAP s x 0
def bkUpd (ro : Bool) {s : Sh} (A : Alt s) (x : SDat s) : SDat (bk ro s) := match ro with
 | true => x
 | false => A.upd x
def idR : Nat → Nat → List (Option Nat)
 | 0, _ => []
 | n + 1, k => some k :: idR n (k + 1)
def bkRoots (ro : Bool) (s : Sh) : List (Option Nat) := match ro with
 | true => idR (nn s) 0
 | false => rootsA s 0
def idB (n : Nat) : Nat → List Nat → Bool
 | k, [] => Nat.beq k n
 | k, m :: r => match Nat.beq m k with
  | true => idB n (k + 1) r
  | false => false
def idOK (ro : Bool) (n : Nat) (ms : List Nat) : Bool := match ro with
 | true => idB n 0 ms
 | false => true
def sameP (hp : Nat → HObj) : List (Nat × HObj) → Prop
 | [] => True
 | (h, o) :: r => hp h = o ∧ sameP hp r
structure Way where
 on : Prop
 ap : AP
 hw : List (Nat × HObj)
 k : Nat
def wayA (ro : Bool) {ins : Sh} (A : Alt ins) (on : Prop) (x : SDat ins) (ns : List Nat) (fz : List (Nat × HObj)) (nx nx1 : Nat) : Way :=
 { on := on, ap := resA A.outs (A.res x) (nx1 + nn (bk ro ins)),
   hw := match ro with
    | false => intoH (nmBack (rootsA ins 0) ns nx1) (backS ins) (A.upd x) 0 (intoH (fun k => nx1 + nn (backS ins) + k) A.outs (A.res x) 0 (deadL ns fz))
    | true => intoH (fun k => nx1 + nn ins + k) A.outs (A.res x) 0 fz
   k := (nx1 - nx) + nn (bk ro ins) + nn A.outs }
def waysA (ro : Bool) {ins : Sh} (sel : Nat) (x : SDat ins) (ns : List Nat) (fz : List (Nat × HObj)) (nx nx1 : Nat) : List (Alt ins) → Nat → List Way
 | [], _ => []
 | A :: r, i => wayA ro A (sel = i) x ns fz nx nx1 :: waysA ro sel x ns fz nx nx1 r (i + 1)
def preA (ro : Bool) {ins : Sh} (p : Prop) (x : SDat ins) (hp : Nat → HObj) (ns : List Nat) (nx1 : Nat) : Prop := match ro with
 | false => p
 | true => p ∧ sameP hp (intoH (nmBack (idR (nn ins) 0) ns nx1) ins x 0 [])
def hasSelf : Sh → Bool
 | .self _ _ => true
 | .cons _ b => hasSelf b
 | _ => false
def sameO : HObj → HObj → Bool
 | .box (.cons (.clos f c) .nil), .box (.cons (.clos g d) .nil) => match Nat.beq f g with
  | true => eqLocs c d
  | false => false
 | _, _ => false
def sames (hp : Nat → HObj) (hw : List (Nat × HObj)) : List Nat → List Nat
 | [] => []
 | h :: r => match sameO (hp h) (hset hp hw h) with
  | true => h :: sames hp hw r
  | false => sames hp hw r
def dropK (D : List Nat) : List (Nat × HObj) → List (Nat × HObj)
 | [] => []
 | (h, o) :: r => match memN D h with
  | true => dropK D r
  | false => (h, o) :: dropK D r
def dropW (y : Bool) (hp : Nat → HObj) (ns : List Nat) (ws : List Way) : List Way := match y with
 | true => ws.map (fun W => { W with hw := dropK (sames hp W.hw ns) W.hw })
 | false => ws
noncomputable def callA (S : Spec) (hp : Nat → HObj) (nx : Nat) (args : List AP) : Option (Prop × List Way) :=
 match frzArgs hp S.ins args with
 | fz => match fromA (hset hp fz) S.ins (listA args) nx with
  | some ⟨x, ns, _, nx1⟩ => match nodupN ns with
   | true => some (preA S.ro (S.pre x) x (hset hp fz) ns nx1, dropW (hasSelf S.ins) hp ns (waysA S.ro (S.sel x) x ns fz nx nx1 S.alts 0))
   | false => none
  | none => none
def pathOf (gd : List (Nat × (Prop × Path))) (o : Oper) : Option Path := match o.guard with
 | none => some []
 | some (j, w) => match lookN gd j with
  | some (_, p) => some ((j, w) :: p)
  | none => none
def nonEmpty : Path → Bool
 | [] => false
 | _ => true
def idxOf (t : Nat) : List Oper → Nat → Option Nat
 | [], _ => none
 | o :: r, i => match o.dst with
  | some d => match Nat.beq d t with
   | true => some i
   | false => idxOf t r (i + 1)
  | none => idxOf t r (i + 1)
def gdPath (c : Operand) (ops : List Oper) (gd : List (Nat × (Prop × Path))) (w : Bool) (path : Path) : Path :=
 match c with
 | .tmp t => match idxOf t ops 0 with
  | some j => match lookN gd j with
   | some _ => (j, w) :: path
   | none => path
  | none => path
 | _ => path
def pickA (gl : Glob) (ops : List Oper) (sl : Nat → PA) (gd : List (Nat × (Prop × Path))) (path : Path) (c a b : Operand) : Option AP :=
 match opA gl sl path c with
 | .blit true => some (opA gl sl (gdPath c ops gd true path) a)
 | .blit false => some (opA gl sl (gdPath c ops gd false path) b)
 | X => match propOf X, (match c with | .tmp t => idxOf t ops 0 | _ => none) with
  | some p, some j => match lookN gd j with
   | some _ => match opA gl sl ((j, true) :: path) a, opA gl sl ((j, false) :: path) b with
    | .blit true, Y => match propOf Y with | some q => some (.dec (p ∨ q)) | none => none
    | Y, .blit false => match propOf Y with | some q => some (.dec (p ∧ q)) | none => none
    | Y, Z => match propOf Y, propOf Z with
     | some q, some r => some (.dec ((p ∧ q) ∨ (¬ p ∧ r)))
     | _, _ => none
   | none => none
  | _, _ => none
def calleeOf : Op → Option Operand
 | .call { callee := .value f, .. } => some f
 | _ => none
def pickOf : Op → Option (Operand × Operand × Operand)
 | .pick c a b => some (c, a, b)
 | _ => none
def unlistA : AP → Option (List AP)
 | .nil => some []
 | .cons a b => match unlistA b with
  | some l => some (a :: l)
  | none => none
 | _ => none
abbrev Specs := Nat → List Spec
noncomputable def callAny (hp : Nat → HObj) (nx : Nat) (args : List AP) : List Spec → Option (Prop × List Way)
 | [] => none
 | S :: r => match callA S hp nx args with
  | some o => some o
  | none => callAny hp nx args r
structure Cf where
 E : Env
 F : Specs
 gl : Glob
 N : Nat
 keep : List Nat
 spl : List Nat := []
 nz : Bool := false
 eat : Feed := fun _ _ _ _ => False
 L : Nat → List LSpec := fun _ => []
 I : Nat → List ItSpec := fun _ => []
 live : List Nat := []
 views : List Nat := []
def keysR : List (Nat × HObj) → List Nat → List Nat
 | [], r => r
 | (h, _) :: l, r => h :: keysR l r
def splitW (spl : List Nat) (dst : Option Nat) : List Way → List Way
 | [⟨on, ap, hw, k⟩] => match dst with
  | some d => match memN spl d with
   | true => match propOf ap with
    | some p => [⟨p, .blit true, hw, k⟩, ⟨¬ p, .blit false, hw, k⟩]
    | none => [⟨on, ap, hw, k⟩]
   | false => [⟨on, ap, hw, k⟩]
  | none => [⟨on, ap, hw, k⟩]
 | ws => ws
def calA : AP → AP
 | .dat .fn (some g) => .clos g .nil
 | X => X
noncomputable def stepA (c : Cf) (ops : List Oper) (sl : Nat → PA) (hp : Nat → HObj) (nx : Nat) (gd : List (Nat × (Prop × Path))) (path : Path) (o : Oper) (K : List Prop → List Way → List Nat → Prop) : Prop :=
 match pickOf o.op with
 | some (x, a, b) => match pickA c.gl ops sl gd path x a b with
  | some ap => K [] [⟨True, ap, [], 0⟩] []
  | none => False
 | none => forceL ((opnds o.op).map (opA c.gl sl path)) (fun args =>
  match calleeOf o.op with
  | some f => forceA (calA (opA c.gl sl path f)) (fun fa => match fa with
   | .clos g caps => match unlistA caps with
    | some l => forceNs (reachN hp 4 (namesL (args ++ l) [])) (fun ns => match closedB hp ns ns with
     | true => match callAny (resH hp ns) nx (args ++ l) (c.F g) with
      | some (pre, ws) => K [pre] ws ns
      | none => False
     | false => False)
    | none => False
   | _ => False)
  | none => forceNs (reachN hp 4 (namesL args [])) (fun ns => match closedB hp ns ns with
   | true => match evalOp c.E (resH hp ns) nx (nonEmpty path) o.dst o.op args with
    | some ⟨vc, ap, hw, k⟩ => K vc [⟨True, ap, hw, k⟩] ns
    | none => False
   | false => False))
structure More (p : Prop) : Prop where
 out : p
def nextRS (i : Nat) (dst : Option Nat) (path : Path) (ap : AP) (hw : List (Nat × HObj)) (k : Nat) (ns : List Nat) (vc : List Prop) (K : RS → Prop) : RS → Prop
 | ⟨sl, hp, nx, gd, _, tr, wr⟩ => forceN (nx + k) (fun nx => appF hw hp (fun hp => forceNs (keysR hw []) (fun ks => appF ks wr (fun wr => match dst, propOf ap with
  | some d, some p => K ⟨(d, ⟨path, ap⟩) :: sl, hp, nx, (i, (p, path)) :: gd, vc, (ks, ns) :: tr, wr⟩
  | some d, none => K ⟨(d, ⟨path, ap⟩) :: sl, hp, nx, gd, vc, (ks, ns) :: tr, wr⟩
  | none, _ => K ⟨sl, hp, nx, gd, vc, (ks, ns) :: tr, wr⟩))))
def goWay (i : Nat) (dst : Option Nat) (path : Path) (ns : List Nat) (vc : List Prop) (go : RS → Prop) (rs : RS) : Way → Prop
 | ⟨_, ap, hw, k⟩ => match keysOK ns rs.nx k hw with
  | true => forceA ap (fun ap => forceH hw (fun hw => forceN k (fun k => nextRS i dst path ap hw k ns vc go rs)))
  | false => False
def goSkip (i : Nat) (dst : Option Nat) (path : Path) (ns : List Nat) (vc : List Prop) (go : RS → Prop) (rs : RS) : Prop :=
 nextRS i dst path .any [] 0 ns vc go rs
def goWays (i : Nat) (dst : Option Nat) (path : Path) (ns : List Nat) (vc : List Prop) (go : RS → Prop) (rs : RS) : List Way → Prop
 | [] => True
 | W :: r => (W.on → More (goWay i dst path ns vc go rs W)) ∧ More (goWays i dst path ns vc go rs r)
def allP : List Prop → Prop
 | [] => True
 | [p] => p
 | p :: r => allP r ∧ p
def goAll (gd : List (Nat × (Prop × Path))) (i : Nat) (dst : Option Nat) (path : Path) (ns : List Nat) (vc : List Prop) (go : RS → Prop) (rs : RS) : List Way → Prop
 | [W] => match path, W.hw with
  | _ :: _, _ :: _ => condP gd path True (fun p => (p → More (goWay i dst path ns vc go rs W)) ∧ (¬ p → More (goSkip i dst path ns vc go rs)))
  | _, _ => goWay i dst path ns vc go rs W
 | ws => match path with
  | [] => allP vc ∧ More (goWays i dst path ns [] go rs ws)
  | _ :: _ => condP gd path True (fun p => allP vc ∧ (p → More (goWays i dst path ns [] go rs ws)) ∧ (¬ p → More (goSkip i dst path ns [] go rs)))
def deadH (ops : List Oper) (sl : Nat → PA) : Path → Bool
 | [] => false
 | (j, w) :: r => match ops[j]? with
  | some o => match o.dst with
   | some d => match (sl d).ap with
    | .blit b => match eqB b w with
     | true => deadH ops sl r
     | false => true
    | _ => deadH ops sl r
   | none => deadH ops sl r
  | none => deadH ops sl r
structure Dyn where
 X : Type
 ok : X → Prop
 vc : List Prop
 W : X → Way
 ns : List Nat
noncomputable def argsT (hp : Nat → HObj) : (ts : List Ty) → List AP → Option (TDat ts)
 | [], [] => some ()
 | t :: r, X :: l => match toDat hp t X with
  | some x => match argsT hp r l with
   | some y => some (x, y)
   | none => none
  | none => none
 | _, _ => none
noncomputable def callL (S : LSpec) (hp : Nat → HObj) (nx : Nat) (args : List AP) : Option Dyn :=
 match frzArgs hp S.ins args with
 | fz => match fromA (hset hp fz) S.ins (listA args) nx with
  | some ⟨x, ns, _, nx1⟩ => match nodupN ns with
   | true => some { X := S.X, ok := S.ok x, vc := [S.pre x], W := fun χ => wayA false (S.alt χ) True x ns fz nx nx1, ns := keysR fz ns }
   | false => none
  | none => none
noncomputable def feedA (eat : Feed) (hp : Nat → HObj) (h : Nat) (args : List AP) : Option Dyn := match hp h with
 | .ob (.log ts) (ys, E, D) => match argsT hp ts args with
  | some y => some { X := Bool × Eater, ok := fun x => eat ts D (if x.1 = true then ys.tail else []) x.2, vc := [ys.head? = some y ∧ eat ts D ys E], W := fun x => ⟨True, .dec (x.1 = true), [(h, .ob (.log ts) (if x.1 = true then ys.tail else [], x.2, D))], 0⟩, ns := [h] }
  | none => none
 | _ => none
def wkB : HObj → Bool
 | .ob (.wk _ _) _ => true
 | _ => false
def wkN : List (Nat × HObj) → Option Nat
 | [] => none
 | (h, o) :: r => match wkB o with
  | true => some h
  | false => wkN r
def rdyB (fd : Option Nat) : AP → Option (Nat × Nat)
 | .val (.pointer (some ⟨r, 0, none⟩)) => match fd with
  | some h => some (h, r)
  | none => none
 | _ => none
noncomputable def rangeW (c : Cf) (hp : Nat → HObj) (T : TypeId) (dst : Option Nat) (X : AP) : Option Dyn := match dst with
 | some d => match memN c.live d, X with
  | true, .ref h => match hp h, c.E.ty T with
   | .map k v m, some (.mp k' v', _) => match decide (k = k'), decide (v = v') with
    | true, true => some { X := Nat, ok := fun _ => True, vc := [], W := fun r => ⟨True, .val (.pointer (some ⟨r, 0, none⟩)), [(h, .ob (.wk k v) (m, m, (dflt k, dflt v), False, r))], 0⟩, ns := [h] }
    | _, _ => none
   | _, _ => none
  | _, _ => none
 | none => none
noncomputable def nextW (hp : Nat → HObj) : Option (Nat × Nat) → Option Dyn
 | some (h, r) => match hp h with
  | .ob (.wk k v) (m, left, _, _, r') => some { X := Nat, ok := fun i => left ≠ [] → i < left.length, vc := [r' = r], W := fun i => ⟨True, .nxt (left ≠ []), [(h, .ob (.wk k v) (m, left.eraseIdx i, left.getD i (dflt k, dflt v), left ≠ [], r'))], 0⟩, ns := [h] }
  | _ => none
 | none => none
noncomputable def entryW (hp : Nat → HObj) : Option (Nat × Nat) → Option Dyn
 | some (h, r) => match hp h with
  | .ob (.wk k v) (_, _, x, q, r') => some { X := Unit, ok := fun _ => True, vc := [r' = r, q], W := fun _ => ⟨True, .tup (.cons (.dat k x.1) (.cons (.dat v x.2) .nil)), [], 0⟩, ns := [h] }
  | _ => none
 | none => none
noncomputable def delW (c : Cf) (hp : Nat → HObj) (T : TypeId) : List AP → Option Dyn
 | [.ref h, Y] => match hp h, c.E.ty T with
  | .ob (.wk k v) (m, left, x, _, r), some (.mp k' v', _) => match decide (k = k'), decide (v = v'), keyTy k, toDat hp k Y with
   | true, true, true, some y => some { X := Unit, ok := fun _ => True, vc := [(m.map Prod.fst).Nodup], W := fun _ => ⟨True, .any, [(h, .ob (.wk k v) (mdel m y, left.filter (fun e => !decide (e.1 = y)), x, False, r))], 0⟩, ns := [h] }
   | _, _, _, _ => none
  | _, _ => none
 | _ => none
noncomputable def viewW (c : Cf) (hp : Nat → HObj) (T : TypeId) (dst : Option Nat) (X L : AP) : Option Dyn := match dst with
 | some d => match memN c.views d, X, L with
  | true, .ref h, .dat (.int _) n => match hp h, c.E.ty T with
   | .row u xs, some (.sl t, _) => match decide (u = t) with
    | true => some { X := Unit, ok := fun _ => True, vc := [0 ≤ n, n < (xs.length : Int)], W := fun _ => ⟨True, .vw h (Int.toNat n) u.size, [], 0⟩, ns := [h] }
    | false => none
   | _, _ => none
  | _, _, _ => none
 | none => none
noncomputable def clearW (c : Cf) (hp : Nat → HObj) (T : TypeId) : List AP → Option Dyn
 | [.vw h k sz] => match hp h, c.E.ty T with
  | .row u xs, some (.sl t, _) => match decide (u = t), Nat.beq sz u.size with
   | true, true => some { X := Unit, ok := fun _ => True, vc := [], W := fun _ => ⟨True, .any, [(h, .row u (xs.take k ++ List.replicate (xs.length - k) (dflt u)))], 0⟩, ns := [h] }
   | _, _ => none
  | _, _ => none
 | _ => none
noncomputable def dynA (c : Cf) (fd : Option Nat) (sl : Nat → PA) (hp : Nat → HObj) (nx : Nat) (path : Path) (o : Oper) : Option Dyn := match calleeOf o.op with
 | some f => match opA c.gl sl path f with
  | .clos g caps => match unlistA caps, c.L g with
   | some l, S :: _ => callL S hp nx ((opnds o.op).map (opA c.gl sl path) ++ l)
   | _, _ => none
  | .ref h => feedA c.eat hp h ((opnds o.op).map (opA c.gl sl path))
  | _ => none
 | none => match o.op with
  | .next x false => match opA c.gl sl path x with
   | .ref h => match hp h with
    | .ob (.mit k v) y => some { X := Nat, ok := fun i => y.1 ≠ [] → i < y.1.length, vc := [], W := fun i => ⟨True, .nxt (y.1 ≠ []), [(h, .ob (.mit k v) (y.1.eraseIdx i, y.1.getD i (dflt k, dflt v), y.1 ≠ []))], 0⟩, ns := [h] }
    | _ => none
   | X => nextW hp (rdyB fd X)
  | .range T x => rangeW c hp T o.dst (opA c.gl sl path x)
  | .entry x => entryW hp (rdyB fd (opA c.gl sl path x))
  | .call cl => match cl.callee, cl.argTypes[0]? with
   | .builtin .delete, some T => delW c hp T (cl.args.toList.map (opA c.gl sl path))
   | .builtin .clear, some T => clearW c hp T (cl.args.toList.map (opA c.gl sl path))
   | _, _ => none
  | .slice T x (some l) none none => viewW c hp T o.dst (opA c.gl sl path x) (opA c.gl sl path l)
  | _ => none
noncomputable def dynB (c : Cf) (fd : Option Nat) (y : Bool) (sl : Nat → PA) (hp : Nat → HObj) (nx : Nat) (path : Path) (o : Oper) : Option Dyn := match y with
 | true => dynA c fd sl hp nx path o
 | false => none
def goDyn (gd : List (Nat × (Prop × Path))) (i : Nat) (dst : Option Nat) (path : Path) (vc : List Prop) (go : RS → Prop) (rs : RS) (D : Dyn) : Prop := match path with
 | [] => allP vc ∧ ∀ x : D.X, D.ok x → More (goWay i dst [] D.ns [] go rs (D.W x))
 | e :: r => condP gd (e :: r) True (fun p => allP vc ∧ (p → More (∀ x : D.X, D.ok x → More (goWay i dst (e :: r) D.ns [] go rs (D.W x)))) ∧ (¬ p → More (goSkip i dst (e :: r) D.ns [] go rs)))
noncomputable def runOps (c : Cf) (y : Bool) (ops : List Oper) : List Oper → Nat → RS → (RS → Prop) → Prop
 | [], _, rs, K => K rs
 | o :: r, i, ⟨sl, hp, nx, gd, vc, tr, wr⟩, K => match pathOf gd o, dstOK o.dst c.N with
  | some path, true => match deadH ops (RS.slf ⟨sl, [], 0, [], [], [], []⟩) path with
   | true => condP gd path True (fun p => ¬ p ∧ More (goSkip i o.dst path [] vc (fun rs => runOps c y ops r (i + 1) rs K) ⟨sl, hp, nx, gd, vc, tr, wr⟩))
   | false => match dynB c (wkN hp) y (RS.slf ⟨sl, [], 0, [], [], [], []⟩) (RS.hpf ⟨[], hp, 0, [], [], [], []⟩) nx path o with
    | some D => impAll gd path D.vc vc (fun vc => goDyn gd i o.dst path vc (fun rs => runOps c y ops r (i + 1) rs K) ⟨sl, hp, nx, gd, vc, tr, wr⟩ D)
    | none => stepA c ops (RS.slf ⟨sl, [], 0, [], [], [], []⟩) (RS.hpf ⟨[], hp, 0, [], [], [], []⟩) nx gd path o (fun vc1 ws ns =>
     impAll gd path vc1 vc (fun vc => goAll gd i o.dst path ns vc (fun rs => runOps c y ops r (i + 1) rs K) ⟨sl, hp, nx, gd, vc, tr, wr⟩ (splitW c.spl o.dst ws)))
  | _, _ => False
def cleanF (keep : List Nat) : List Nat → List (Nat × PA) → (List (Nat × PA) → Prop) → Prop
 | _, [], K => K []
 | seen, (s, ⟨p, ap⟩) :: r, K => match memN seen s, memN keep s with
  | false, true => match p with
   | [] => forceA ap (fun ap => cleanF keep (s :: seen) r (fun r => K ((s, ⟨[], ap⟩) :: r)))
   | _ :: _ => cleanF keep (s :: seen) r K
  | _, _ => cleanF keep seen r K
def cleanH : List Nat → List (Nat × HObj) → (List (Nat × HObj) → Prop) → Prop
 | _, [], K => K []
 | seen, (h, o) :: r, K => match memN seen h with
  | false => forceN h (fun h => forceO o (fun o => cleanH (h :: seen) r (fun r => K ((h, o) :: r))))
  | true => cleanH seen r K
def dedupN : List Nat → List Nat → (List Nat → Prop) → Prop
 | acc, [], K => K acc
 | acc, h :: r, K => match memN acc h with
  | true => dedupN acc r K
  | false => forceN h (fun h => dedupN (h :: acc) r K)
def uniqB (d g : Nat) : List Oper → Nat → Bool
 | [], _ => true
 | o :: r, i => match o.dst with
  | some e => match Nat.beq e d, Nat.beq i g with
   | true, false => false
   | _, _ => uniqB d g r (i + 1)
  | none => uniqB d g r (i + 1)
def gdOne (ops : List Oper) (o : Oper) : Bool :=
 (match o.guard with
  | none => true
  | some (g, _) => match ops[g]? with
   | some og => match og.dst with
    | some d => uniqB d g ops 0
    | none => false
   | none => false) &&
 (match o.op with
  | .pick (.tmp t) _ _ => match idxOf t ops 0 with
   | some j => uniqB t j ops 0
   | none => true
  | _ => true)
def gdB (ops : List Oper) : List Oper → Bool
 | [] => true
 | o :: r => match gdOne ops o with
  | true => gdB ops r
  | false => false
def bindsAny (e : Edge) : Bool := match e.ground with
 | .textOnly _ => false
 | .gcOnly _ => false
 | _ => true
def ancE (acc : List Nat) (i : Nat) : List Edge → Nat
 | [] => 0
 | e :: r => match ancE acc i r with
  | m => match bindsAny e, Nat.blt e.on i with
   | true, true => match Nat.testBit m e.on with
    | true => m
    | false => Nat.lor (Nat.lor m (2 ^ e.on)) (acc.getD (i - 1 - e.on) 0)
   | _, _ => m
def ancs : List Oper → Nat → List Nat → List Nat
 | [], _, acc => acc
 | o :: r, i, acc => ancs r (i + 1) (ancE acc i o.after.toList :: acc)
structure RW where
 dst : Option Nat
 rd : List Nat
 ks : List Nat
 ns : List Nat
def tmpOf : Operand → List Nat → List Nat
 | .tmp t, l => t :: l
 | _, l => l
def readsOf (ops : List Oper) (o : Oper) : List Nat :=
 match o.guard with
 | some (g, _) => match ops[g]? with
  | some og => match og.dst with
   | some d => d :: (o.op.operands.toList.foldr tmpOf [])
   | none => o.op.operands.toList.foldr tmpOf []
  | none => o.op.operands.toList.foldr tmpOf []
 | none => o.op.operands.toList.foldr tmpOf []
def hits (l m : List Nat) : Bool := match l with
 | [] => false
 | a :: r => match memN m a with
  | true => true
  | false => hits r m
def confB (a b : RW) : Bool :=
 (match a.dst with
  | some d => memN b.rd d || (match b.dst with | some e => Nat.beq e d | none => false)
  | none => false) || hits a.ks b.ns || hits a.ks b.ks
def ordOne (b : RW) (anc : Nat) : List RW → Nat → Bool
 | [], _ => true
 | a :: r, j => match confB a b || confB b a with
  | true => match Nat.testBit anc j with
   | true => ordOne b anc r (j - 1)
   | false => false
  | false => ordOne b anc r (j - 1)
def ordAll : List RW → List Nat → Nat → Bool
 | b :: r, m :: ms, j => match ordOne b m r (j - 1) with
  | true => ordAll r ms (j - 1)
  | false => false
 | [], _, _ => true
 | _, _, _ => false
def rwsOf (ops : List Oper) : List Oper → List (List Nat × List Nat) → List RW → List RW
 | o :: r, (ks, ns) :: tr, acc => rwsOf ops r tr (⟨o.dst, readsOf ops o, ks, ns⟩ :: acc)
 | _, _, acc => acc
def backB : List Oper → Nat → Bool
 | [], _ => true
 | o :: r, i => match o.after.toList.all (fun e => !bindsAny e || Nat.blt e.on i) with
  | true => backB r (i + 1)
  | false => false
def ordB (ops : List Oper) (tr : List (List Nat × List Nat)) : Bool :=
 match backB ops 0 with
 | true => ordAll (rwsOf ops ops tr.reverse []) (ancs ops 0 []) (ops.length - 1)
 | false => false
def emit (keep : List Nat) (draw : Bool) (ops : List Oper) (rs : RS) (K : RS → Prop) : Prop := match rs with
 | ⟨sl, hp, nx, _, vc, tr, wr⟩ => match (match draw with | true => ordB ops tr | false => true) with
  | true => cleanF keep [] sl (fun sl => cleanH [] hp (fun hp => dedupN [] wr (fun wr => match vc with
   | [] => K ⟨sl, hp, nx, [], [], [], wr⟩
   | vc => allP vc ∧ More (K ⟨sl, hp, nx, [], [], [], wr⟩))))
  | false => False
noncomputable def regA (c : Cf) (ops : List Oper) (draw : Bool) (rs : RS) (K : RS → Prop) : Prop := match gdB ops ops with
 | true => runOps c (!draw) ops ops 0 rs (fun rs' => emit c.keep draw ops rs' K)
 | false => False
inductive Ex where
 | normal
 | exit (id : Nat)
 | ret
def dstsO : List Oper → List Nat → List Nat
 | [], l => l
 | o :: r, l => dstsO r (match o.dst with | some d => d :: l | none => l)
def dsts : Code → List Nat → List Nat
 | .region _ ops _, l => dstsO ops.toList l
 | .seq a b, l => dsts a (dsts b l)
 | .cond _ a b, l => dsts a (dsts b l)
 | .block _ c, l => dsts c l
 | .loop c, l => dsts c l
 | .scope c, l => dsts c l
 | _, l => l
def dropS (ds : List Nat) : List (Nat × PA) → List (Nat × PA)
 | [] => []
 | (s, p) :: r => match memN ds s with
  | true => dropS ds r
  | false => (s, p) :: dropS ds r
@[reducible] def shS : List (Nat × Sh) → Sh
 | [] => .nil
 | (_, s) :: r => .cons s (shS r)
@[reducible] def shB : List (Nat × Sh) → Sh
 | [] => .nil
 | (_, .row t) :: r => .cons (.row t) (shB r)
 | (_, s) :: r => .cons (.box s) (shB r)
def getS (sl : Nat → PA) : List (Nat × Sh) → AP
 | [] => .nil
 | (s, _) :: r => .cons (sl s).ap (getS sl r)
def locB : List (Nat × Sh) → AP
 | [] => .nil
 | (h, .row _) :: r => .cons (.ref h) (locB r)
 | (h, _) :: r => .cons (.loc h 0) (locB r)
def rootsB : List (Nat × Sh) → List (Option Nat)
 | [] => []
 | (h, .row _) :: r => some h :: rootsB r
 | (h, s) :: r => some h :: (List.replicate (nn s) none ++ rootsB r)
def rowB : Sh → Bool
 | .row _ => true
 | _ => false
theorem shB_row {h : Nat} {t : Ty} {r : List (Nat × Sh)} : shB ((h, .row t) :: r) = .cons (.row t) (shB r) := rfl
theorem shB_box {h : Nat} {s : Sh} {r : List (Nat × Sh)} (hs : rowB s = false) : shB ((h, s) :: r) = .cons (.box s) (shB r) ∧ locB ((h, s) :: r) = .cons (.loc h 0) (locB r) ∧ rootsB ((h, s) :: r) = some h :: (List.replicate (nn s) none ++ rootsB r) := by
 cases s <;> first | exact ⟨rfl, rfl, rfl⟩ | cases hs
def rootsL (S B : List (Nat × Sh)) : List (Option Nat) := List.replicate (nn (shS S)) none ++ rootsB B
def nmL (R : List (Option Nat)) (nx k : Nat) : Nat := match R.getD k none with
 | some h => h
 | none => nx + k
def putS (nm : Nat → Nat) : (l : List (Nat × Sh)) → SDat (shS l) → Nat → List (Nat × PA) → List (Nat × PA)
 | [], _, _, r => r
 | (s, sh) :: l, x, n, r => (s, ⟨[], intoA nm sh x.1 n⟩) :: putS nm l x.2 (n + nn sh) r
def keysS : List (Nat × Sh) → List Nat
 | [] => []
 | (s, _) :: r => s :: keysS r
@[reducible] def shL (S B : List (Nat × Sh)) : Sh := .cons (shS S) (shB B)
noncomputable def loopIn (S B : List (Nat × Sh)) (rs : RS) : Option (Fr (SDat (shL S B))) :=
 match fromA rs.hpf (shL S B) (.cons (getS rs.slf S) (locB B)) rs.nx with
 | some fr => match nodupN fr.ns with
  | true => some fr
  | false => none
 | none => none
def ltN (nx : Nat) : List Nat → List Nat
 | [] => []
 | h :: r => match Nat.blt h nx with
  | true => h :: ltN nx r
  | false => ltN nx r
def loopHead (S B : List (Nat × Sh)) (ds : List Nat) (rs : RS) (ns : List Nat) (x : SDat (shL S B)) : RS :=
 { sl := putS (nmL (rootsL S B) rs.nx) S x.1 0 (dropS ds rs.sl), hp := intoH (nmL (rootsL S B) rs.nx) (shL S B) x 0 (deadL (ltN rs.nx ns) rs.hp), nx := rs.nx + nn (shL S B), wr := [] }
def wrOK (B : List Nat) (nx : Nat) : List Nat → Bool
 | [] => true
 | h :: r => match memN B h, Nat.ble nx h with
  | false, false => false
  | _, _ => wrOK B nx r
def addWr (l : List Nat) : RS → RS
 | ⟨sl, hp, nx, gd, vc, tr, wr⟩ => ⟨sl, hp, nx, gd, vc, tr, wr ++ l⟩
def noRF : Code → Bool
 | .seq a b => match noRF a with
  | true => noRF b
  | false => false
 | .cond _ a b => match noRF a with
  | true => noRF b
  | false => false
 | .block _ b => noRF b
 | .loop b => noRF b
 | .rangeFunc .. => false
 | _ => true
def putT : List Nat → (ts : List Ty) → TDat ts → List (Nat × PA) → List (Nat × PA)
 | s :: l, t :: r, x, k => (s, ⟨[], .dat t x.1⟩) :: putT l r x.2 k
 | _, _, _, k => k
def roundHead (ts : List Ty) (B : List (Nat × Sh)) (ps : List Nat) (rs : RS) (ns : List Nat) (y : TDat ts) (x : SDat (shL [] B)) : RS := match loopHead [] B [] rs ns x with
 | ⟨sl, hp, nx, gd, vc, tr, wr⟩ => ⟨putT ps ts y sl, hp, nx, gd, vc, tr, wr⟩
def withSl (sl : List (Nat × PA)) : RS → RS
 | ⟨_, hp, nx, gd, vc, tr, wr⟩ => ⟨sl, hp, nx, gd, vc, tr, wr⟩
def psOK (N : Nat) : List Nat → List Ty → Bool
 | [], [] => true
 | s :: l, _ :: r => match Nat.blt s N, memN l s with
  | true, false => psOK N l r
  | _, _ => false
 | _, _ => false
noncomputable def rfK (B : List (Nat × Sh)) (rs : RS) (ns : List Nat) (inv : SDat (shB B) → Prop) (K : Ex → RS → Prop) : Ex → RS → Prop
 | .normal, rs' => match loopIn [] B rs', wrOK (keysS B) rs.nx rs'.wr with
  | some ⟨x', ns', _, _⟩, true => match wrOK (keysS B) rs.nx ns' with
   | true => inv x'.2
   | false => False
  | _, _ => False
 | .exit i, rs' => K (.exit i) (addWr (keysS B ++ ns ++ rs.wr) (withSl rs.sl rs'))
 | .ret, rs' => K .ret (addWr (keysS B ++ ns ++ rs.wr) (withSl rs.sl rs'))
def rfA (W : RS → Prop) : Ex → RS → Prop
 | .normal, rs1 => W rs1
 | _, _ => False
def hasLp : Code → Bool
 | .loop _ => true
 | _ => false
def restO : HObj → HObj
 | .ob (.wk k v) (m, _, _, _, _) => .map k v m
 | o => o
def restL : List (Nat × HObj) → List (Nat × HObj)
 | [] => []
 | (h, o) :: r => (h, restO o) :: restL r
def restN : List (Nat × HObj) → List Nat
 | [] => []
 | (h, o) :: r => match wkB o with
  | true => h :: restN r
  | false => restN r
def restK (y : Bool) (K : RS → Prop) : RS → Prop
 | ⟨sl, hp, nx, gd, vc, tr, wr⟩ => match y, wkN hp with
  | true, some _ => forceH (restL hp) (fun hp' => K ⟨sl, hp', nx, gd, vc, tr, restN hp ++ wr⟩)
  | _, _ => K ⟨sl, hp, nx, gd, vc, tr, wr⟩
noncomputable def wpA (c : Cf) : Code → RS → (Ex → RS → Prop) → Prop
 | .skip, rs, K => K .normal rs
 | .region _ ops draw, rs, K => regA c ops.toList draw rs (K .normal)
 | .seq a b, rs, K => wpA c a rs (fun e rs' => match e with
  | .normal => wpA c b rs' K
  | e => K e rs')
 | .cond x a b, rs, K => match opA c.gl rs.slf [] x with
  | .blit true => wpA c a rs K
  | .blit false => wpA c b rs K
  | X => match propOf X with
   | some p => (p → More (wpA c a rs K)) ∧ (¬ p → More (wpA c b rs K))
   | none => False
 | .block id b, rs, K => wpA c b rs (fun e rs' => match e with
  | .exit i => match Nat.beq i id with
   | true => restK (hasLp b) (K .normal) rs'
   | false => K (.exit i) rs'
  | e => K e rs')
 | .loop b, rs, K => ∃ (S B : List (Nat × Sh)) (inv : SDat (shL S B) → Prop) (μ : SDat (shL S B) → Nat),
     match loopIn S B rs with
     | some ⟨x0, ns, _, _⟩ => inv x0 ∧ ∀ x, inv x → More (forceRS (loopHead S B (dsts b []) rs ns x) (fun rsH => wpA c b rsH (fun e rs' => match e with
      | .normal => match loopIn S B rs', wrOK (keysS B) rs.nx rs'.wr with
       | some ⟨x', ns', _, _⟩, true => match wrOK (keysS B) rs.nx ns' with
        | true => inv x' ∧ μ x' < μ x
        | false => False
       | _, _ => False
      | e => K e (addWr (keysS B ++ ns ++ rs.wr) rs'))))
     | none => False
 | .rangeFunc g ps asg b, rs, K => match opA c.gl rs.slf [] g with
  | .clos f caps => match unlistA caps, c.I f with
   | some l, I :: _ => match fromA rs.hpf I.caps (listA l) rs.nx, psOK c.N ps.toList I.ts, noRF asg, noRF b with
    | some ⟨z, [], [], _⟩, true, true, true => I.pre z ∧ ∃ (B : List (Nat × Sh)) (inv : List (TDat I.ts) → SDat (shB B) → Prop), match loopIn [] B rs with
     | some ⟨x0, ns, _, _⟩ => inv (I.seq z) x0.2 ∧ (∀ y r x, inv (y :: r) x → More (forceRS (roundHead I.ts B ps.toList rs ns y ((), x)) (fun rsH => wpA c asg rsH (rfA (fun rs1 => wpA c b rs1 (rfK B rs ns (inv r) K)))))) ∧ ∀ x, inv [] x → More (forceRS (loopHead [] B [] rs ns ((), x)) (fun rsE => K .normal (addWr (keysS B ++ ns ++ rs.wr) rsE)))
     | none => False
    | _, _, _, _ => False
   | _, _ => False
  | _ => False
 | .exit id, rs, K => K (.exit id) rs
 | .ret, rs, K => K .ret rs
 | .label _, rs, K => K .normal rs
 | _, _, _ => False
def argsSl (s : Sh) (x : SDat s) : List (Nat × PA) := go (intoA (fun k => k) s x 0) 0
where go : AP → Nat → List (Nat × PA)
 | .cons a r, i => (i, ⟨[], a⟩) :: go r (i + 1)
 | _, _ => []
def endH (hp : Nat → HObj) : Sh → Nat → Option AP
 | .cons (.box _) s, n => match hp n, endH hp s (n + 1) with
  | .box c, some r => some (.cons c r)
  | _, _ => none
 | .cons _ s, n => endH hp s n
 | _, _ => some .nil
end Go.Gv

/- What a function has to show, as a goal: definitions. -/
namespace Go.Gv
open Go
noncomputable def getR (E : Env) (hp : Nat → HObj) (sl : Nat → PA) : List ResultVar → Option (List AP)
 | [] => some []
 | .tmp s :: r => match getR E hp sl r with
  | some l => some ((sl s).ap :: l)
  | none => none
 | .cell s T :: r => match (sl s).ap with
  | .loc h off => match loadA E hp T (.loc h off), getR E hp sl r with
   | some ([], X), some l => some (X :: l)
   | _, _ => none
  | _ => none
noncomputable def retAlt (E : Env) (ro : Bool) {ins : Sh} (q : Prop) (A : Alt ins) (x : SDat ins) (rl : List ResultVar) (rs : RS) : Prop :=
 match getR E rs.hpf rs.slf rl with
 | some l => match frzArgs rs.hpf A.outs l with
  | fz => match fromA (hset rs.hpf fz) A.outs (listA l) rs.nx with
   | some ⟨y, ns, _, nx⟩ => match fromA (hset rs.hpf fz) (bk ro ins) (bkEnd ro ins x) nx with
    | some ⟨z, ms, _, _⟩ => match nodupN (ns ++ ms), idOK ro (nn ins) ms with
     | true, true => q ∧ y = A.res x ∧ z = bkUpd ro A x
     | _, _ => False
    | none => False
   | none => False
 | none => False
noncomputable def retA (E : Env) (S : Spec) (x : SDat S.ins) (rl : List ResultVar) (rs : RS) : Prop :=
 match S.alts with
 | [A] => retAlt E S.ro (S.sel x = 0) A x rl rs
 | As => ∃ (k : Nat) (A : Alt S.ins), As[k]? = some A ∧ retAlt E S.ro (S.sel x = k) A x rl rs
def bodyOf (f : Func) : Code := f.body.getD .skip
noncomputable def fnGoal (c : Cf) (f : Func) (S : Spec) (x : SDat S.ins) : Prop :=
 forceRS { sl := argsSl S.ins x, hp := intoH (fun k => k) S.ins x 0 [], nx := nn S.ins } (fun rs0 => wpA c (bodyOf f) rs0 (fun e rs => match e with
  | .ret => retA c.E S x f.results.toList rs
  | .normal => retA c.E S x f.results.toList rs
  | _ => False))
end Go.Gv

/- Shapes: from the abstract value to the datum, and back under other names. -/
namespace Go.Gv
open Go
def objsA (nm : Nat → Nat) : (s : Sh) → SDat s → Nat → List HObj
 | .d _, _, _ => []
 | .row t, xs, _ => [.row t xs]
 | .take t, xs, _ => [.row t xs]
 | .spare t, _, _ => [.spare t]
 | .map k v, m, _ => [.map k v m]
 | .ob κ, x, _ => [.ob κ x]
 | .box cs, x, n => .box (intoA nm cs x (n + 1)) :: objsA nm cs x (n + 1)
 | .clos _ cs, x, n => objsA nm cs x n
 | .agg cs, x, n => objsA nm cs x n
 | .self f cs, x, n => .box (.cons (.clos f (snocA (intoA nm cs x (n + 1)) (.loc (nm n) 0))) .nil) :: objsA nm cs x (n + 1)
 | .nilp, _, _ => []
 | .nils, _, _ => []
 | .nil, _, _ => []
 | .cons a b, x, n => objsA nm a x.1 n ++ objsA nm b x.2 (n + nn a)
theorem objsA_len (nm : Nat → Nat) : ∀ (s : Sh) (x : SDat s) (n : Nat), (objsA nm s x n).length = nn s
 | .d _, _, _ => rfl
 | .row _, _, _ => rfl
 | .take _, _, _ => rfl
 | .spare _, _, _ => rfl
 | .map _ _, _, _ => rfl
 | .ob _, _, _ => rfl
 | .box cs, x, n => by simp [objsA, nn, objsA_len nm cs x (n + 1)]
 | .clos _ cs, x, n => objsA_len nm cs x n
 | .agg cs, x, n => objsA_len nm cs x n
 | .self _ cs, x, n => by simp [objsA, nn, objsA_len nm cs x (n + 1)]
 | .nilp, _, _ => rfl
 | .nils, _, _ => rfl
 | .nil, _, _ => rfl
 | .cons a b, x, n => by simp [objsA, nn, objsA_len nm a x.1 n, objsA_len nm b x.2 (n + nn a)]
def zipN (nm : Nat → Nat) : List HObj → Nat → List (Nat × HObj) → List (Nat × HObj)
 | [], _, r => r
 | o :: l, n, r => (nm n, o) :: zipN nm l (n + 1) r
theorem zipN_append (nm : Nat → Nat) : ∀ (a b : List HObj) (n : Nat) (r : List (Nat × HObj)), zipN nm (a ++ b) n r = zipN nm a n (zipN nm b (n + a.length) r)
 | [], b, n, r => by simp [zipN]
 | o :: a, b, n, r => by
  simp only [List.cons_append, zipN, List.length_cons]
  rw [zipN_append nm a b (n + 1) r, show n + 1 + a.length = n + (a.length + 1) by omega]
theorem intoH_eq (nm : Nat → Nat) : ∀ (s : Sh) (x : SDat s) (n : Nat) (r : List (Nat × HObj)), intoH nm s x n r = zipN nm (objsA nm s x n) n r
 | .d _, _, _, _ => rfl
 | .row _, _, _, _ => rfl
 | .take _, _, _, _ => rfl
 | .spare _, _, _, _ => rfl
 | .map _ _, _, _, _ => rfl
 | .ob _, _, _, _ => rfl
 | .box cs, x, n, r => by simp only [intoH, objsA, zipN, intoH_eq nm cs x (n + 1) r]
 | .clos _ cs, x, n, r => intoH_eq nm cs x n r
 | .agg cs, x, n, r => intoH_eq nm cs x n r
 | .self f cs, x, n, r => by simp only [intoH, objsA, zipN, intoH_eq nm cs x (n + 1) r]
 | .nilp, _, _, _ => rfl
 | .nils, _, _, _ => rfl
 | .nil, _, _, _ => rfl
 | .cons a b, x, n, r => by
  simp only [intoH, objsA, zipN_append, objsA_len]
  rw [intoH_eq nm b x.2 (n + nn a) r, intoH_eq nm a x.1 n]
structure ObjOK (β1 : Asg) (G : GW) (hpx : Nat → HObj) (v : Value) (h : Nat) (o : HObj) : Prop where
 sat : satH o v β1 G
 fc : ∀ b i, fpc o v b i → fpc (hpx h) v b i
 fo : ∀ b, fpo o v b → fpo (hpx h) v b
 ne : o ≠ HObj.none
theorem nil_slice_sat {t : Ty} {β : Asg} {G : GW} : satH (.row t []) (.slice none 0 0) β G :=
 ⟨none, 0, rfl, Nat.le_refl _, Nat.zero_le _, fun _ => rfl, fun _ h => by cases h⟩
theorem nil_spare_sat {t : Ty} {β : Asg} {G : GW} : satH (.spare t) (.slice none 0 0) β G := ⟨none, 0, 0, rfl, fun _ h => by cases h⟩
theorem nil_rep {t : Ty} {G : GW} : RepV (.sl t) [] G (.slice none 0 0) := .of_one rfl ⟨none, 0, rfl, Nat.le_refl _, Nat.zero_le _, fun _ => rfl, fun _ h => by cases h⟩
theorem castOb_eq {κ κ' : Kind} {x : ObDat κ} {y : ObDat κ'} (h : castOb κ κ' x = some y) : κ = κ' ∧ HEq x y := by
 unfold castOb at h
 split at h
 · rename_i e; subst e; simp only [Option.some.injEq] at h; subst h; exact ⟨rfl, HEq.rfl⟩
 · cases h
theorem cast_eq {u t : Ty} {x : Dat u} {y : Dat t} (h : castDat u t x = some y) : u = t ∧ HEq x y := by
 unfold castDat at h
 split at h
 · rename_i e; subst e; simp only [Option.some.injEq] at h; subst h; exact ⟨rfl, HEq.rfl⟩
 · cases h
structure Carried (hpx : Nat → HObj) (βx β : Asg) (G : GW) (s : Sh) (X : AP) (x : SDat s) (ns : List Nat) : Prop where
 len : ns.length = nn s
 go : ∀ (nm : Nat → Nat) (n : Nat) (β1 : Asg), (∀ (k h : Nat), ns[k]? = some h → β1 (nm (n + k)) = βx h) →
  (∀ v, sat X β G v → sat (intoA nm s x n) β1 G v) ∧ (∀ l : List Value, satL X β G l → satL (intoA nm s x n) β1 G l) ∧ (∀ l : List Value, satT X β G l → satT (intoA nm s x n) β1 G l) ∧
  ∀ (k h : Nat) (o : HObj), ns[k]? = some h → (objsA nm s x n)[k]? = some o → ∃ v, βx h = some v ∧ ObjOK β1 G hpx v h o
theorem satL_not {X : AP} {β : Asg} {G : GW} {l : List Value} (h : satL X β G l) : X = .nil ∨ ∃ a b, X = .cons a b := by
 cases X <;> first | exact .inl rfl | exact .inr ⟨_, _, rfl⟩ | (unfold satL at h; exact h.elim)
theorem satT_not {X : AP} {β : Asg} {G : GW} {l : List Value} (h : satT X β G l) : X = .nil ∨ ∃ a b, X = .cons a b := by
 cases X <;> first | exact .inl rfl | exact .inr ⟨_, _, rfl⟩ | (unfold satT at h; exact h.elim)
theorem eqLocs_eq : ∀ {a b : AP}, eqLocs a b = true → a = b := by
 intro a b
 fun_induction eqLocs a b with
 | case1 => intro _; rfl
 | case2 h o r k p s h1 h2 ih =>
  intro h
  rw [Nat.eq_of_beq_eq_true h1, Nat.eq_of_beq_eq_true h2, ih h]
 | case3 => intro h; cases h
 | case4 => intro h; cases h
theorem unsnocA_eq : ∀ {X Y l : AP}, unsnocA X = some (Y, l) → X = snocA Y l := by
 intro X
 induction X with
 | cons a b _ ihb =>
  intro Y l h
  cases b <;> try (unfold unsnocA at h; unfold unsnocA at h; cases h; done)
  · unfold unsnocA at h; simp only [Option.some.injEq, Prod.mk.injEq] at h; obtain ⟨rfl, rfl⟩ := h; rfl
  · unfold unsnocA at h
    split at h
    · rename_i i l' hi
      simp only [Option.some.injEq, Prod.mk.injEq] at h; obtain ⟨rfl, rfl⟩ := h
      rw [ihb hi]; rfl
    · cases h
 | _ => intro Y l h; unfold unsnocA at h; cases h
def isL : AP → Bool
 | .nil => true
 | .cons _ b => isL b
 | _ => false
theorem unsnocA_isL : ∀ {X Y l : AP}, unsnocA X = some (Y, l) → isL Y = true := by
 intro X
 induction X with
 | cons a b _ ihb =>
  intro Y l h
  cases b <;> try (unfold unsnocA at h; unfold unsnocA at h; cases h; done)
  · unfold unsnocA at h; simp only [Option.some.injEq, Prod.mk.injEq] at h; obtain ⟨rfl, rfl⟩ := h; rfl
  · unfold unsnocA at h
    split at h
    · rename_i i l' hi
      simp only [Option.some.injEq, Prod.mk.injEq] at h; obtain ⟨rfl, rfl⟩ := h
      unfold isL; exact ihb hi
    · cases h
 | _ => intro Y l h; unfold unsnocA at h; cases h
theorem satT_snoc : ∀ {Y : AP}, isL Y = true → ∀ {y : AP} {β : Asg} {G : GW} {l : List Value}, satT (snocA Y y) β G l ↔ ∃ l' v, l = l' ++ [v] ∧ satT Y β G l' ∧ sat y β G v := by
 intro Y
 induction Y with
 | nil =>
  intro _ y β G l
  unfold snocA satT
  constructor
  · rintro ⟨v, l', rfl, h1, h2⟩
    unfold satT at h2; subst h2
    exact ⟨[], v, rfl, rfl, h1⟩
  · rintro ⟨l', v, rfl, h1, h2⟩
    subst h1
    exact ⟨v, [], rfl, h2, by unfold satT; rfl⟩
 | cons a b _ ihb =>
  intro hl y β G l
  unfold isL at hl
  unfold snocA satT
  constructor
  · rintro ⟨v, l', rfl, h1, h2⟩
    obtain ⟨l2, w, rfl, h3, h4⟩ := (ihb hl).1 h2
    exact ⟨v :: l2, w, rfl, ⟨v, l2, rfl, h1, h3⟩, h4⟩
  · rintro ⟨l', w, rfl, ⟨v, l2, rfl, h1, h3⟩, h4⟩
    exact ⟨v, l2 ++ [w], rfl, h1, (ihb hl).2 ⟨l2, w, rfl, h3, h4⟩⟩
 | _ => intro hl; cases hl
theorem satL_snoc : ∀ {Y : AP}, isL Y = true → ∀ {h o : Nat} {β : Asg} {G : GW} {l : List Value}, satL (snocA Y (.loc h o)) β G l ↔ ∃ l' v, l = l' ++ [v] ∧ satL Y β G l' ∧ sat (.loc h o) β G v := by
 intro Y
 induction Y with
 | nil =>
  intro _ h o β G l
  unfold snocA satL
  constructor
  · rintro ⟨v, l', rfl, _, h1, h2⟩
    unfold satL at h2; subst h2
    exact ⟨[], v, rfl, rfl, h1⟩
  · rintro ⟨l', v, rfl, h1, h2⟩
    subst h1
    refine ⟨v, [], rfl, ?_, h2, by unfold satL; rfl⟩
    unfold sat at h2; obtain ⟨b, _, rfl⟩ := h2; rfl
 | cons a b _ ihb =>
  intro hl h o β G l
  unfold isL at hl
  unfold snocA satL
  constructor
  · rintro ⟨v, l', rfl, h0, h1, h2⟩
    obtain ⟨l2, w, rfl, h3, h4⟩ := (ihb hl).1 h2
    exact ⟨v :: l2, w, rfl, ⟨v, l2, rfl, h0, h1, h3⟩, h4⟩
  · rintro ⟨l', w, rfl, ⟨v, l2, rfl, h0, h1, h3⟩, h4⟩
    exact ⟨v, l2 ++ [w], rfl, h0, h1, (ihb hl).2 ⟨l2, w, rfl, h3, h4⟩⟩
 | _ => intro hl; cases hl
theorem snocA_not : ∀ {Y y : AP}, ∃ a b, snocA Y y = .cons a b := by
 intro Y y; cases Y <;> exact ⟨_, _, rfl⟩
theorem satT_isL : ∀ {Y : AP} {β : Asg} {G : GW} {l : List Value}, satT Y β G l → isL Y = true := by
 intro Y
 induction Y with
 | nil => intros; rfl
 | cons a b _ ihb =>
  intro β G l h
  unfold satT at h
  obtain ⟨v, l', _, _, h2⟩ := h
  unfold isL; exact ihb h2
 | _ => intro β G l h; unfold satT at h; exact h.elim
theorem satL_isL : ∀ {Y : AP} {β : Asg} {G : GW} {l : List Value}, satL Y β G l → isL Y = true := by
 intro Y
 induction Y with
 | nil => intros; rfl
 | cons a b _ ihb =>
  intro β G l h
  unfold satL at h
  obtain ⟨v, l', _, _, _, h2⟩ := h
  unfold isL; exact ihb h2
 | _ => intro β G l h; unfold satL at h; exact h.elim
theorem isL_snoc : ∀ (Y y : AP), isL (snocA Y y) = true := by
 intro Y y
 induction Y with
 | cons a b _ ihb => unfold snocA isL; exact ihb
 | _ => rfl
theorem isL_into (nm : Nat → Nat) : ∀ (s : Sh), lstS s = true → ∀ (x : SDat s) (n : Nat), isL (intoA nm s x n) = true
 | .nil, _, _, _ => rfl
 | .cons a b, h, x, n => by unfold intoA isL; exact isL_into nm b (by unfold lstS at h; exact h) x.2 _
 | .self f cs, _, x, n => isL_snoc _ _
theorem isL_end : ∀ (s : Sh), lstS s = true → ∀ (x : SDat s) (n : Nat), isL (endAP s x n) = true
 | .nil, _, _, _ => rfl
 | .cons a b, h, x, n => by unfold endAP isL; exact isL_end b (by unfold lstS at h; exact h) x.2 _
 | .self f cs, _, x, n => isL_snoc _ _
theorem lstS_back : ∀ (s : Sh), lstS (backS s) = true → lstS s = true
 | .nil, _ => rfl
 | .cons a b, h => by unfold backS lstS at h; unfold lstS; exact lstS_back b h
 | .self f cs, _ => rfl
 | .d _, h => by cases h
 | .row _, h => by cases h
 | .take _, h => by cases h
 | .spare _, h => by cases h
 | .map _ _, h => by cases h
 | .ob _, h => by cases h
 | .box _, h => by cases h
 | .clos _ _, h => by cases h
 | .agg _, h => by cases h
 | .nilp, h => by cases h
 | .nils, h => by cases h
theorem unsnoc_snoc : ∀ {Y : AP}, isL Y = true → ∀ {y : AP}, unsnocA (snocA Y y) = some (Y, y) := by
 intro Y
 induction Y with
 | nil => intro _ y; rfl
 | cons a b _ ihb =>
  intro h y
  unfold isL at h
  have ih := @ihb h y
  obtain ⟨c, d, e⟩ := @snocA_not b y
  unfold snocA
  rw [e] at ih ⊢
  unfold unsnocA
  rw [ih]
 | _ => intro h; cases h
theorem fromA_trans {hp hpx : Nat → HObj} {β βx : Asg} {G : GW} (H : HeapSat hp β G) (hold : ∀ h, hp h ≠ .none → βx h = β h ∧ hpx h = hp h) : ∀ (s : Sh) (X : AP) (nx : Nat) (x : SDat s) (ns : List Nat) (ex : List (Nat × HObj)) (nx' : Nat),
    fromA hp s X nx = some ⟨x, ns, ex, nx'⟩ → (∀ h o, (h, o) ∈ ex → βx h = some (.slice none 0 0) ∧ hpx h = o) → Carried hpx βx β G s X x ns
 | .d t, X, nx, x, ns, ex, nx', h, hex => by
  unfold fromA at h
  split at h
  · rename_i y hy
    simp only [Option.some.injEq, Fr.mk.injEq] at h; obtain ⟨rfl, rfl, rfl, rfl⟩ := h
    refine ⟨rfl, fun nm n β1 hag => ⟨fun v hv => ?_, fun l hl => ?_, fun l hl => ?_, fun k h o hk _ => by simp at hk⟩⟩
    · unfold intoA sat; exact toDat_rep H hy hv
    · rcases satL_not hl with rfl | ⟨a, b, rfl⟩ <;> (unfold toDat toDat1 at hy; cases t <;> cases hy)
    · rcases satT_not hl with rfl | ⟨a, b, rfl⟩ <;> (unfold toDat toDat1 at hy; cases t <;> cases hy)
  · cases h
 | .row t, X, nx, x, ns, ex, nx', h, hex => by
  unfold fromA at h
  split at h
  · rename_i hn
    split at h
    · rename_i u xs hh
      split at h
      · rename_i y hy
        simp only [Option.some.injEq, Fr.mk.injEq] at h; obtain ⟨rfl, rfl, rfl, rfl⟩ := h
        obtain ⟨e1, e2⟩ := cast_eq hy
        cases e1; cases e2
        have ho := hold hn (by rw [hh]; simp)
        refine ⟨rfl, fun nm n β1 hag => ⟨fun v hv => ?_, fun l hl => (by rcases satL_not hl with e | ⟨a, b, e⟩ <;> cases e), fun l hl => (by rcases satT_not hl with e | ⟨a, b, e⟩ <;> cases e), fun k h o hk hob => ?_⟩⟩
        · unfold intoA sat
          unfold sat at hv
          have := hag 0 hn rfl
          rw [Nat.add_zero] at this
          rw [this, ho.1]; exact hv
        · cases k with
          | zero =>
           cases hk; cases hob
           obtain ⟨v, hv, hs⟩ := H hn (by rw [hh]; simp)
           rw [hh] at hs
           exact ⟨v, by rw [ho.1]; exact hv, hs, fun b i hf => by rw [ho.2, hh]; exact hf, fun b hf => by rw [ho.2, hh]; exact hf, by simp⟩
          | succ k => simp at hk
      · cases h
    · cases h
  · simp only [Option.some.injEq, Fr.mk.injEq] at h; obtain ⟨rfl, rfl, rfl, rfl⟩ := h
    obtain ⟨hb, hx⟩ := hex nx (.row t []) (by simp)
    refine ⟨rfl, fun nm n β1 hag => ⟨fun v hv => ?_, fun l hl => (by rcases satL_not hl with e | ⟨a, b, e⟩ <;> cases e), fun l hl => (by rcases satT_not hl with e | ⟨a, b, e⟩ <;> cases e), fun k h o hk hob => ?_⟩⟩
    · unfold intoA sat
      unfold sat at hv; subst hv
      have := hag 0 nx rfl
      rw [Nat.add_zero] at this
      exact ⟨by rw [this]; exact hb, rfl⟩
    · cases k with
      | zero =>
       cases hk; cases hob
       exact ⟨_, hb, nil_slice_sat, fun b i hf => by rw [hx]; exact hf, fun b hf => by rw [hx]; exact hf, by simp⟩
      | succ k => simp at hk
  · cases h
 | .take t, X, nx, x, ns, ex, nx', h, hex => by
  unfold fromA at h
  split at h
  · rename_i hn
    split at h
    · rename_i u xs hh
      split at h
      · rename_i y hy
        simp only [Option.some.injEq, Fr.mk.injEq] at h; obtain ⟨rfl, rfl, rfl, rfl⟩ := h
        obtain ⟨e1, e2⟩ := cast_eq hy
        cases e1; cases e2
        have ho := hold hn (by rw [hh]; simp)
        refine ⟨rfl, fun nm n β1 hag => ⟨fun v hv => ?_, fun l hl => (by rcases satL_not hl with e | ⟨a, b, e⟩ <;> cases e), fun l hl => (by rcases satT_not hl with e | ⟨a, b, e⟩ <;> cases e), fun k h o hk hob => ?_⟩⟩
        · unfold intoA sat
          unfold sat at hv
          have := hag 0 hn rfl
          rw [Nat.add_zero] at this
          rw [this, ho.1]; exact hv
        · cases k with
          | zero =>
           cases hk; cases hob
           obtain ⟨v, hv, hs⟩ := H hn (by rw [hh]; simp)
           rw [hh] at hs
           exact ⟨v, by rw [ho.1]; exact hv, hs, fun b i hf => by rw [ho.2, hh]; exact hf, fun b hf => by rw [ho.2, hh]; exact hf, by simp⟩
          | succ k => simp at hk
      · cases h
    · cases h
  · simp only [Option.some.injEq, Fr.mk.injEq] at h; obtain ⟨rfl, rfl, rfl, rfl⟩ := h
    obtain ⟨hb, hx⟩ := hex nx (.row t []) (by simp)
    refine ⟨rfl, fun nm n β1 hag => ⟨fun v hv => ?_, fun l hl => (by rcases satL_not hl with e | ⟨a, b, e⟩ <;> cases e), fun l hl => (by rcases satT_not hl with e | ⟨a, b, e⟩ <;> cases e), fun k h o hk hob => ?_⟩⟩
    · unfold intoA sat
      unfold sat at hv; subst hv
      have := hag 0 nx rfl
      rw [Nat.add_zero] at this
      exact ⟨by rw [this]; exact hb, rfl⟩
    · cases k with
      | zero =>
       cases hk; cases hob
       exact ⟨_, hb, nil_slice_sat, fun b i hf => by rw [hx]; exact hf, fun b hf => by rw [hx]; exact hf, by simp⟩
      | succ k => simp at hk
  · cases h
 | .spare t, X, nx, x, ns, ex, nx', h, hex => by
  unfold fromA at h
  split at h
  · rename_i hn u xs
    split at h
    · rename_i w hh
      split at h
      · rename_i y hy hd
        have hd := of_decide_eq_true hd; subst hd
        simp only [Option.some.injEq, Fr.mk.injEq] at h; obtain ⟨rfl, rfl, rfl, rfl⟩ := h
        obtain ⟨e1, e2⟩ := cast_eq hy
        cases e1; cases e2
        have ho := hold hn (by rw [hh]; simp)
        refine ⟨rfl, fun nm n β1 hag => ⟨fun v hv => ?_, fun l hl => (by rcases satL_not hl with e | ⟨a, b, e⟩ <;> cases e), fun l hl => (by rcases satT_not hl with e | ⟨a, b, e⟩ <;> cases e), fun k h o hk hob => ?_⟩⟩
        · unfold intoA sat
          unfold sat at hv
          have := hag 0 hn rfl
          rw [Nat.add_zero] at this
          rw [this, ho.1]; exact hv
        · cases k with
          | zero =>
           cases hk; cases hob
           obtain ⟨v, hv, hs⟩ := H hn (by rw [hh]; simp)
           rw [hh] at hs
           exact ⟨v, by rw [ho.1]; exact hv, hs, fun b i hf => by rw [ho.2, hh]; exact hf, fun b hf => by rw [ho.2, hh]; exact hf, by simp⟩
          | succ k => simp at hk
      · cases h
    · cases h
  · simp only [Option.some.injEq, Fr.mk.injEq] at h; obtain ⟨rfl, rfl, rfl, rfl⟩ := h
    obtain ⟨hb, hx⟩ := hex nx (.spare t) (by simp)
    refine ⟨rfl, fun nm n β1 hag => ⟨fun v hv => ?_, fun l hl => (by rcases satL_not hl with e | ⟨a, b, e⟩ <;> cases e), fun l hl => (by rcases satT_not hl with e | ⟨a, b, e⟩ <;> cases e), fun k h o hk hob => ?_⟩⟩
    · unfold intoA sat
      unfold sat at hv; subst hv
      have := hag 0 nx rfl
      rw [Nat.add_zero] at this
      exact ⟨by rw [this]; exact hb, nil_rep⟩
    · cases k with
      | zero =>
       cases hk; cases hob
       exact ⟨_, hb, nil_spare_sat, fun b i hf => by rw [hx]; exact hf, fun b hf => by rw [hx]; exact hf, by simp⟩
      | succ k => simp at hk
  · cases h
 | .map a b, X, nx, x, ns, ex, nx', h, hex => by
  unfold fromA at h
  split at h
  · rename_i hn
    split at h
    · rename_i u xs m hh
      split at h
      · rename_i y hy
        simp only [Option.some.injEq, Fr.mk.injEq] at h; obtain ⟨rfl, rfl, rfl, rfl⟩ := h
        obtain ⟨e1, e2⟩ := cast_eq hy
        cases e1; cases e2
        have ho := hold hn (by rw [hh]; simp)
        refine ⟨rfl, fun nm n β1 hag => ⟨fun v hv => ?_, fun l hl => (by rcases satL_not hl with e | ⟨a, b, e⟩ <;> cases e), fun l hl => (by rcases satT_not hl with e | ⟨a, b, e⟩ <;> cases e), fun k h o hk hob => ?_⟩⟩
        · unfold intoA sat
          unfold sat at hv
          have := hag 0 hn rfl
          rw [Nat.add_zero] at this
          rw [this, ho.1]; exact hv
        · cases k with
          | zero =>
           cases hk; cases hob
           obtain ⟨v, hv, hs⟩ := H hn (by rw [hh]; simp)
           rw [hh] at hs
           exact ⟨v, by rw [ho.1]; exact hv, hs, fun b i hf => by rw [ho.2, hh]; exact hf, fun b hf => by rw [ho.2, hh]; exact hf, by simp⟩
          | succ k => simp at hk
      · cases h
    · cases h
  · cases h
 | .ob κ, X, nx, x, ns, ex, nx', h, hex => by
  unfold fromA at h
  split at h
  · rename_i hn
    split at h
    · rename_i u xs hh
      split at h
      · rename_i y hy
        simp only [Option.some.injEq, Fr.mk.injEq] at h; obtain ⟨rfl, rfl, rfl, rfl⟩ := h
        obtain ⟨e1, e2⟩ := castOb_eq hy
        subst e1; cases e2
        have ho := hold hn (by rw [hh]; simp)
        refine ⟨rfl, fun nm n β1 hag => ⟨fun v hv => ?_, fun l hl => (by rcases satL_not hl with e | ⟨a, b, e⟩ <;> cases e), fun l hl => (by rcases satT_not hl with e | ⟨a, b, e⟩ <;> cases e), fun k h o hk hob => ?_⟩⟩
        · unfold intoA sat
          unfold sat at hv
          have := hag 0 hn rfl
          rw [Nat.add_zero] at this
          rw [this, ho.1]; exact hv
        · cases k with
          | zero =>
           cases hk; cases hob
           obtain ⟨v, hv, hs⟩ := H hn (by rw [hh]; simp)
           rw [hh] at hs
           exact ⟨v, by rw [ho.1]; exact hv, hs, fun b i hf => by rw [ho.2, hh]; exact hf, fun b hf => by rw [ho.2, hh]; exact hf, by simp⟩
          | succ k => simp at hk
      · cases h
    · cases h
  · cases h
 | .box cs, X, nx, x, ns, ex, nx', h, hex => by
  unfold fromA at h
  split at h
  · rename_i hn
    split at h
    · rename_i c hh
      split at h
      · rename_i y ms ey nxy hy
        simp only [Option.some.injEq, Fr.mk.injEq] at h; obtain ⟨rfl, rfl, rfl, rfl⟩ := h
        have ih := fromA_trans H hold cs c nx y ms ey nxy hy hex
        have ho := hold hn (by rw [hh]; simp)
        obtain ⟨v, hv, hs⟩ := H hn (by rw [hh]; simp)
        rw [hh] at hs
        refine ⟨by simp [ih.len, nn], fun nm n β1 hag => ?_⟩
        obtain ⟨i1, i2, i3, i4⟩ := ih.go nm (n + 1) β1 (fun k h hk => by
         have := hag (k + 1) h (by simpa using hk)
         rwa [show n + (k + 1) = n + 1 + k by omega] at this)
        have h0 := hag 0 hn rfl
        rw [Nat.add_zero] at h0
        refine ⟨fun u hu => ?_, fun l hl => (by rcases satL_not hl with e | ⟨a, b, e⟩ <;> cases e), fun l hl => (by rcases satT_not hl with e | ⟨a, b, e⟩ <;> cases e), fun k h o hk hob => ?_⟩
        · unfold intoA sat
          unfold sat at hu
          rw [h0, ho.1]; exact hu
        · cases k with
          | zero =>
           cases hk; cases hob
           obtain ⟨b, l, e, hl, hc⟩ := hs
           subst e
           exact ⟨_, by rw [ho.1]; exact hv, ⟨b, l, rfl, i2 l hl, hc⟩, fun b i hf => by rw [ho.2, hh]; exact hf, fun b hf => by rw [ho.2, hh]; exact hf, by simp⟩
          | succ k => exact i4 k h o (by simpa using hk) (by simpa [objsA] using hob)
      · cases h
    · cases h
  · cases h
 | .clos f cs, X, nx, x, ns, ex, nx', h, hex => by
  unfold fromA at h
  split at h
  · rename_i g c
    split at h
    · rename_i hg
      have hg := Nat.eq_of_beq_eq_true hg
      subst hg
      split at h
      · rename_i y ms ey nxy hy
        simp only [Option.some.injEq, Fr.mk.injEq] at h; obtain ⟨rfl, rfl, rfl, rfl⟩ := h
        have ih := fromA_trans H hold cs c nx y ms ey nxy hy hex
        refine ⟨ih.len, fun nm n β1 hag => ?_⟩
        obtain ⟨i1, i2, i3, i4⟩ := ih.go nm n β1 hag
        refine ⟨fun u hu => ?_, fun l hl => (by rcases satL_not hl with e | ⟨a, b, e⟩ <;> cases e), fun l hl => (by rcases satT_not hl with e | ⟨a, b, e⟩ <;> cases e), i4⟩
        unfold intoA sat
        unfold sat at hu
        obtain ⟨l, e, hl⟩ := hu
        exact ⟨l, e, i3 l hl⟩
      · cases h
    · cases h
  · cases h
 | .agg cs, X, nx, x, ns, ex, nx', h, hex => by
  unfold fromA at h
  split at h
  · rename_i c
    split at h
    · rename_i y ms ey nxy hy
      simp only [Option.some.injEq, Fr.mk.injEq] at h; obtain ⟨rfl, rfl, rfl, rfl⟩ := h
      have ih := fromA_trans H hold cs c nx y ms ey nxy hy hex
      refine ⟨ih.len, fun nm n β1 hag => ?_⟩
      obtain ⟨i1, i2, i3, i4⟩ := ih.go nm n β1 hag
      refine ⟨fun u hu => ?_, fun l hl => (by rcases satL_not hl with e | ⟨a, b, e⟩ <;> cases e), fun l hl => (by rcases satT_not hl with e | ⟨a, b, e⟩ <;> cases e), i4⟩
      unfold intoA sat
      unfold sat at hu
      obtain ⟨l, e, hl⟩ := hu
      exact ⟨l, e, i2 l hl⟩
    · cases h
  · cases h
 | .self f cs, X, nx, x, ns, ex, nx', h, hex => by
  unfold fromA at h
  split at h
  · rename_i Y hn hX
    split at h
    · rename_i g c hh
      split at h
      · rename_i hg hc
        have hg := Nat.eq_of_beq_eq_true hg
        subst hg
        have hc := eqLocs_eq hc
        subst hc
        split at h
        · rename_i y ms ey nxy hy hlst
          simp only [Option.some.injEq, Fr.mk.injEq] at h; obtain ⟨rfl, rfl, rfl, rfl⟩ := h
          have ih := fromA_trans H hold cs Y nx y ms ey nxy hy hex
          have hYl := unsnocA_isL hX
          have hX := unsnocA_eq hX
          subst hX
          have ho := hold hn (by rw [hh]; simp)
          obtain ⟨v, hv, hs⟩ := H hn (by rw [hh]; simp)
          rw [hh] at hs
          refine ⟨by simp [ih.len, nn], fun nm n β1 hag => ?_⟩
          obtain ⟨i1, i2, i3, i4⟩ := ih.go nm (n + 1) β1 (fun k h hk => by
           have := hag (k + 1) h (by simpa using hk)
           rwa [show n + (k + 1) = n + 1 + k by omega] at this)
          have h0 := hag 0 hn rfl
          rw [Nat.add_zero] at h0
          have hloc : ∀ u, sat (.loc hn 0) β G u → sat (.loc (nm n) 0) β1 G u := fun u hu => by
           unfold sat at hu ⊢
           rw [h0, ho.1]; exact hu
          have kL : ∀ l : List Value, satL (snocA Y (.loc hn 0)) β G l → satL (snocA (intoA nm cs y (n + 1)) (.loc (nm n) 0)) β1 G l := fun l hl => by
           obtain ⟨l', v, e, h1, h2⟩ := (satL_snoc hYl).1 hl
           have h1 := i2 l' h1
           exact (satL_snoc (satL_isL h1)).2 ⟨l', v, e, h1, hloc v h2⟩
          have kT : ∀ l : List Value, satT (snocA Y (.loc hn 0)) β G l → satT (snocA (intoA nm cs y (n + 1)) (.loc (nm n) 0)) β1 G l := fun l hl => by
           obtain ⟨l', v, e, h1, h2⟩ := (satT_snoc hYl).1 hl
           have h1 := i3 l' h1
           exact (satT_snoc (satT_isL h1)).2 ⟨l', v, e, h1, hloc v h2⟩
          refine ⟨fun u hu => ?_, fun l hl => kL l hl, fun l hl => kT l hl, fun k h o hk hob => ?_⟩
          · obtain ⟨a, b, e⟩ := @snocA_not Y (.loc hn 0)
            rw [e] at hu; unfold sat at hu; exact hu.elim
          · cases k with
            | zero =>
             cases hk; cases hob
             obtain ⟨b, l, e, hl, hc⟩ := hs
             subst e
             refine ⟨_, by rw [ho.1]; exact hv, ⟨b, l, rfl, ?_, hc⟩, fun b i hf => by rw [ho.2, hh]; exact hf, fun b hf => by rw [ho.2, hh]; exact hf, by simp⟩
             unfold satL at hl ⊢
             obtain ⟨v, l', rfl, h1, h2, h3⟩ := hl
             refine ⟨v, l', rfl, h1, ?_, by unfold satL at h3 ⊢; exact h3⟩
             unfold sat at h2 ⊢
             obtain ⟨l, e, h2⟩ := h2
             exact ⟨l, e, kT l h2⟩
            | succ k => exact i4 k h o (by simpa using hk) (by simpa [objsA] using hob)
        · cases h
      · cases h
    · cases h
  · cases h
 | .nilp, X, nx, x, ns, ex, nx', h, hex => by
  unfold fromA at h
  split at h
  · simp only [Option.some.injEq, Fr.mk.injEq] at h; obtain ⟨_, rfl, rfl, rfl⟩ := h
    exact ⟨rfl, fun nm n β1 hag => ⟨fun v hv => hv, fun l hl => (by rcases satL_not hl with e | ⟨a, b, e⟩ <;> cases e), fun l hl => (by rcases satT_not hl with e | ⟨a, b, e⟩ <;> cases e), fun k h o hk _ => by simp at hk⟩⟩
  · cases h
 | .nils, X, nx, x, ns, ex, nx', h, hex => by
  unfold fromA at h
  split at h
  · simp only [Option.some.injEq, Fr.mk.injEq] at h; obtain ⟨_, rfl, rfl, rfl⟩ := h
    exact ⟨rfl, fun nm n β1 hag => ⟨fun v hv => hv, fun l hl => (by rcases satL_not hl with e | ⟨a, b, e⟩ <;> cases e), fun l hl => (by rcases satT_not hl with e | ⟨a, b, e⟩ <;> cases e), fun k h o hk _ => by simp at hk⟩⟩
  · cases h
 | .nil, X, nx, x, ns, ex, nx', h, hex => by
  unfold fromA at h
  split at h
  · simp only [Option.some.injEq, Fr.mk.injEq] at h; obtain ⟨_, rfl, rfl, rfl⟩ := h
    exact ⟨rfl, fun nm n β1 hag => ⟨fun v hv => hv, fun l hl => hl, fun l hl => hl, fun k h o hk _ => by simp at hk⟩⟩
  · cases h
 | .cons a b, X, nx, x, ns, ex, nx', h, hex => by
  unfold fromA at h
  split at h
  · rename_i Y Z
    split at h
    · rename_i y ys ey nx1 hy
      split at h
      · rename_i z zs ez nx2 hz
        simp only [Option.some.injEq, Fr.mk.injEq] at h; obtain ⟨rfl, rfl, rfl, rfl⟩ := h
        have ia := fromA_trans H hold a Y nx y ys ey nx1 hy (fun h o hm => hex h o (List.mem_append_left _ hm))
        have ib := fromA_trans H hold b Z nx1 z zs ez nx2 hz (fun h o hm => hex h o (List.mem_append_right _ hm))
        refine ⟨by simp [ia.len, ib.len, nn], fun nm n β1 hag => ?_⟩
        obtain ⟨a1, a2, a3, a4⟩ := ia.go nm n β1 (fun k h hk => hag k h (by rw [List.getElem?_append_left (List.getElem?_eq_some_iff.1 hk).1]; exact hk))
        obtain ⟨b1, b2, b3, b4⟩ := ib.go nm (n + nn a) β1 (fun k h hk => by
         have := hag (nn a + k) h (by rw [← ia.len, List.getElem?_append_right (by omega)]; simpa using hk)
         rwa [← Nat.add_assoc] at this)
        refine ⟨fun v hv => by unfold sat at hv; exact hv.elim, fun l hl => ?_, fun l hl => ?_, fun k h o hk hob => ?_⟩
        · unfold intoA
          rw [satL_cons] at hl ⊢
          obtain ⟨v, l', e, ho, h1, h2⟩ := hl
          exact ⟨v, l', e, ho, a1 v h1, b2 l' h2⟩
        · unfold intoA
          unfold satT at hl ⊢
          obtain ⟨v, l', e, h1, h2⟩ := hl
          exact ⟨v, l', e, a1 v h1, b3 l' h2⟩
        · have hla := objsA_len nm a y n
          by_cases hlt : k < ys.length
          · rw [List.getElem?_append_left hlt] at hk
            simp only [objsA] at hob
            rw [List.getElem?_append_left (by rw [hla, ← ia.len]; exact hlt)] at hob
            exact a4 k h o hk hob
          · rw [List.getElem?_append_right (by omega)] at hk
            simp only [objsA] at hob
            rw [List.getElem?_append_right (by rw [hla, ← ia.len]; omega), hla] at hob
            exact b4 _ h o hk (by rw [ia.len]; exact hob)
      · cases h
    · cases h
  · cases h
end Go.Gv

/- Own memory under other names; rows given up for good; the frame rule under other names. -/
namespace Go.Gv
open Go
def Owns (o : HObj) (v : Value) : Prop := (∃ b i, fpc o v b i) ∨ ∃ b, fpo o v b
def Src (β : Asg) (hp : Nat → HObj) (src : Nat → Nat → Prop) (h : Nat) (o : HObj) (v : Value) : Prop :=
 ∃ m, src h m ∧ β m = some v ∧ (∀ b i, fpc o v b i → fpc (hp m) v b i) ∧ (∀ b, fpo o v b → fpo (hp m) v b)
theorem HeapOK.rebind {hp : Nat → HObj} {β : Asg} {G : GW} (H : HeapOK hp β G) (hp2 : Nat → HObj) (β2 : Asg) (src : Nat → Nat → Prop) (hno : ∀ h, hp2 h = .none → β2 h = none)
    (hsat : ∀ h, hp2 h ≠ .none → ∃ v, β2 h = some v ∧ satH (hp2 h) v β2 G)
    (hsrc : ∀ h v, β2 h = some v → Owns (hp2 h) v → Src β hp src h (hp2 h) v)
    (hinj : ∀ h h' m, src h m → src h' m → h = h') : HeapOK hp2 β2 G := {
 no := hno
 sat := hsat
 im := fun h v hv b i hf => by obtain ⟨m, _, e, f, _⟩ := hsrc h v hv (.inl ⟨b, i, hf⟩); exact H.im _ v e b i (f b i hf)
 imo := fun h v hv b hf => by obtain ⟨m, _, e, _, f⟩ := hsrc h v hv (.inr ⟨b, hf⟩); exact H.imo _ v e b (f b hf)
 dis := fun h h' v v' hne hv hv' b i hf hf' => by
  obtain ⟨m, s, e, f, _⟩ := hsrc h v hv (.inl ⟨b, i, hf⟩)
  obtain ⟨m', s', e', f', _⟩ := hsrc h' v' hv' (.inl ⟨b, i, hf'⟩)
  exact H.dis _ _ v v' (fun eq => hne (hinj h h' m s (by rw [eq]; exact s'))) e e' b i (f b i hf) (f' b i hf')
 diso := fun h h' v v' hne hv hv' b hf hf' => by
  obtain ⟨m, s, e, _, f⟩ := hsrc h v hv (.inr ⟨b, hf⟩)
  obtain ⟨m', s', e', _, f'⟩ := hsrc h' v' hv' (.inr ⟨b, hf'⟩)
  exact H.diso _ _ v v' (fun eq => hne (hinj h h' m s (by rw [eq]; exact s'))) e e' b (f b hf) (f' b hf')
 old := H.old
 oldo := H.oldo }
theorem HInv.rebind {C : Ctx} {hp : Nat → HObj} {β : Asg} {G : GW} (H : HInv C hp β G) (hp2 : Nat → HObj) (β2 : Asg) (src : Nat → Nat → Prop) (hno : ∀ h, hp2 h = .none → β2 h = none)
    (hsat : ∀ h, hp2 h ≠ .none → ∃ v, β2 h = some v ∧ satH (hp2 h) v β2 G)
    (hsrc : ∀ h v, β2 h = some v → Owns (hp2 h) v → Src β hp src h (hp2 h) v)
    (hinj : ∀ h h' m, src h m → src h' m → h = h') : HInv C hp2 β2 G := {
 heap := H.heap.rebind hp2 β2 src hno hsat hsrc hinj
 step := H.step
 own := fun h v hv b i hf => by obtain ⟨m, _, e, f, _⟩ := hsrc h v hv (.inl ⟨b, i, hf⟩); exact H.own _ v e b i (f b i hf)
 owno := fun h v hv b hf => by obtain ⟨m, _, e, _, f⟩ := hsrc h v hv (.inr ⟨b, hf⟩); exact H.owno _ v e b (f b hf)
 glob := H.glob }
theorem HInv.freezeRow {C : Ctx} {hp : Nat → HObj} {β : Asg} {G : GW} (H : HInv C hp β G) {h : Nat} {t : Ty} {xs : List (Dat t)} (hh : hp h = .row t xs) :
    ∃ G', G'.w = G.w ∧ G.le G' ∧ HInv C (hset hp [(h, .frz t xs)]) β G' := by
 obtain ⟨v, hv, hs⟩ := H.heap.sat h (by rw [hh]; simp)
 let G' : GW := { w := G.w, im := fun b i => G.im b i ∨ fpc (hp h) v b i, imo := G.imo, nz := G.nz }
 have hle : G.le G' := ⟨fun b i hi => ⟨.inl hi, rfl⟩, fun b hi => ⟨hi, rfl⟩⟩
 have hst : Step (fpc (hp h) v) (fpo (hp h) v) G G' := ⟨rfl, rfl, rfl, Nat.le_refl _, fun _ _ _ _ => ⟨rfl, rfl⟩, fun _ _ _ _ => rfl, fun _ _ _ _ h => h, hle, fun b i hi => hi.elim .inl (fun h => .inr (.inl h)), fun b hi => .inl hi, .inl (Nat.le_refl _), rfl⟩
 have hold : ∀ b i, G'.im b i → b < G'.w.heap.size := fun b i hi => hi.elim (H.heap.old b i) (fun hf => (H.heap.im h v hv b i hf).2)
 refine ⟨G', rfl, hle, ⟨H.heap.gen (fun n => n = h) hst (Asg.le_refl β) (fun n hne => ⟨by simp [hset, hne], rfl⟩) (fun b i hf => ⟨h, v, rfl, hv, hf⟩) (fun b hf => ⟨h, v, rfl, hv, hf⟩)
  (fun n e hno => by subst e; simp [hset] at hno) (fun n e _ => ?_) (fun n u e hu b i hf => by subst e; simp [hset, fpc] at hf) (fun n u e hu b hf => by subst e; simp [hset, fpo] at hf)
  (fun n n' _ _ e e' hne => (hne (e.trans e'.symm)).elim) (fun n n' _ _ e e' hne => (hne (e.trans e'.symm)).elim) hold H.heap.oldo, ?_, ?_, ?_, ?_⟩⟩
 · subst e
   refine ⟨v, hv, ?_⟩
   simp only [hset, if_true]
   rw [hh] at hs
   obtain ⟨base, cap, rfl, h1, h2, h3, h4⟩ := hs
   refine .of_one rfl ⟨base, cap, rfl, h1, h2, h3, fun a ha => ⟨(h4 a ha).1, fun i x hx => ?_⟩⟩
   obtain ⟨cells, hc, hr⟩ := (h4 a ha).2.2 i x hx
   refine ⟨cells, fun j u hu => ⟨.inr ?_, hc j u hu⟩, Rep.mono t hr hle⟩
   rw [hh, ha]
   have hi : i < xs.length := (List.getElem?_eq_some_iff.1 hx).1
   have hj : j < t.size := by rw [← Rep.length t hr]; exact (List.getElem?_eq_some_iff.1 hu).1
   have hm : i * t.size + t.size ≤ cap * t.size := by rw [← Nat.succ_mul]; exact Nat.mul_le_mul_right _ (by omega)
   exact ⟨rfl, by omega, by omega⟩
 · exact H.step.trans hst (fun b o hf => H.own h v hv b o hf) (fun b hf => H.owno h v hv b hf)
 · intro n u hu b i hf
   by_cases e : n = h
   · subst e; simp [hset, fpc] at hf
   · simp [hset, e] at hf; exact H.own n u hu b i hf
 · intro n u hu b hf
   by_cases e : n = h
   · subst e; simp [hset, fpo] at hf
   · simp [hset, e] at hf; exact H.owno n u hu b hf
 · exact fun g t x hx => (H.glob g t x hx).mono hle
theorem satL_closed : ∀ {cs : AP} {β β' : Asg} {G : GW} {l : List Value}, closedL cs = true → satL cs β G l → satL cs β' G l
 | .nil, _, _, _, _, _, h => by unfold satL at h ⊢; exact h
 | .cons (.dat t x) r, _, _, _, _, hc, h => by
  unfold satL at h ⊢
  obtain ⟨v, l', e, o, h1, h2⟩ := h
  exact ⟨v, l', e, o, by unfold sat at h1 ⊢; exact h1, satL_closed (by simpa only [closedL] using hc) h2⟩
 | .cons (.blit b) r, _, _, _, _, hc, h => by
  unfold satL at h ⊢
  obtain ⟨v, l', e, o, h1, h2⟩ := h
  exact ⟨v, l', e, o, by unfold sat at h1 ⊢; exact h1, satL_closed (by simpa only [closedL] using hc) h2⟩
theorem HInv.freezeBox {C : Ctx} {hp : Nat → HObj} {β : Asg} {G : GW} (H : HInv C hp β G) {h : Nat} {cs : AP} (hh : hp h = .box cs) (hc : closedL cs = true) :
    ∃ G', G'.w = G.w ∧ G.le G' ∧ HInv C (hset hp [(h, .frzb cs)]) β G' := by
 obtain ⟨v, hv, hs⟩ := H.heap.sat h (by rw [hh]; simp)
 let G' : GW := { w := G.w, im := fun b i => G.im b i ∨ fpc (hp h) v b i, imo := G.imo, nz := G.nz }
 have hle : G.le G' := ⟨fun b i hi => ⟨.inl hi, rfl⟩, fun b hi => ⟨hi, rfl⟩⟩
 have hst : Step (fpc (hp h) v) (fpo (hp h) v) G G' := ⟨rfl, rfl, rfl, Nat.le_refl _, fun _ _ _ _ => ⟨rfl, rfl⟩, fun _ _ _ _ => rfl, fun _ _ _ _ h => h, hle, fun b i hi => hi.elim .inl (fun h => .inr (.inl h)), fun b hi => .inl hi, .inl (Nat.le_refl _), rfl⟩
 have hold : ∀ b i, G'.im b i → b < G'.w.heap.size := fun b i hi => hi.elim (H.heap.old b i) (fun hf => (H.heap.im h v hv b i hf).2)
 refine ⟨G', rfl, hle, ⟨H.heap.gen (fun n => n = h) hst (Asg.le_refl β) (fun n hne => ⟨by simp [hset, hne], rfl⟩) (fun b i hf => ⟨h, v, rfl, hv, hf⟩) (fun b hf => ⟨h, v, rfl, hv, hf⟩)
  (fun n e hno => by subst e; simp [hset] at hno) (fun n e _ => ?_) (fun n u e hu b i hf => by subst e; simp [hset, fpc] at hf) (fun n u e hu b hf => by subst e; simp [hset, fpo] at hf)
  (fun n n' _ _ e e' hne => (hne (e.trans e'.symm)).elim) (fun n n' _ _ e e' hne => (hne (e.trans e'.symm)).elim) hold H.heap.oldo, ?_, ?_, ?_, ?_⟩⟩
 · subst e
   refine ⟨v, hv, ?_⟩
   simp only [hset, if_true]
   rw [hh] at hs
   obtain ⟨b, l, rfl, h1, h2⟩ := hs
   refine ⟨b, l, rfl, satL.mono cs (satL_closed hc h1) (Asg.le_refl _) hle, fun j u hu => ⟨.inr ?_, ?_⟩⟩
   · rw [hh]; rfl
   · rw [Nat.zero_add]; exact (h2 j u hu).1
 · exact H.step.trans hst (fun b o hf => H.own h v hv b o hf) (fun b hf => H.owno h v hv b hf)
 · intro n u hu b i hf
   by_cases e : n = h
   · subst e; simp [hset, fpc] at hf
   · simp [hset, e] at hf; exact H.own n u hu b i hf
 · intro n u hu b hf
   by_cases e : n = h
   · subst e; simp [hset, fpo] at hf
   · simp [hset, e] at hf; exact H.owno n u hu b hf
 · exact fun g t x hx => (H.glob g t x hx).mono hle
def frzO : HObj → Option HObj
 | .row t xs => some (.frz t xs)
 | .map k v m => some (.ob (.fm k v) m)
 | .box cs => match closedL cs with
  | true => some (.frzb cs)
  | false => none
 | _ => none
theorem HInv.freeze {C : Ctx} {hp : Nat → HObj} {β : Asg} {G : GW} (H : HInv C hp β G) {h : Nat} {o : HObj} (hh : frzO (hp h) = some o) :
    ∃ G', G'.w = G.w ∧ G.le G' ∧ HInv C (hset hp [(h, o)]) β G' := by
 unfold frzO at hh
 split at hh
 · rename_i hq; cases hh; exact H.freezeRow hq
 · rename_i hq; cases hh; exact H.freezeMap hq
 · rename_i hq
   split at hh
   · rename_i hc; cases hh; exact H.freezeBox hq hc
   · cases hh
 · cases hh
theorem hset_cons (hp : Nat → HObj) (h : Nat) (o : HObj) (r : List (Nat × HObj)) : hset hp ((h, o) :: r) = hset (hset hp r) [(h, o)] := rfl
theorem HInv.freezeL {C : Ctx} {hp : Nat → HObj} {β : Asg} : ∀ (l : List (Nat × HObj)) {G : GW}, HInv C hp β G → (∀ h o, (h, o) ∈ l → frzO (hp h) = some o) →
    ∃ G', G'.w = G.w ∧ G.le G' ∧ HInv C (hset hp l) β G'
 | [], G, H, _ => ⟨G, rfl, G.le_refl, H⟩
 | (h, o) :: r, G, H, hl => by
  obtain ⟨G1, e1, l1, H1⟩ := HInv.freezeL r H (fun h o hm => hl h o (List.mem_cons_of_mem _ hm))
  have hh := hl h o List.mem_cons_self
  by_cases hk : h ∈ keysH r
  · have he : hset hp r h = o := by
     have : ∃ o', (h, o') ∈ r ∧ hset hp r h = o' := by
      clear hl H1
      induction r with
      | nil => simp [keysH] at hk
      | cons e r ih =>
       obtain ⟨k, o'⟩ := e
       by_cases ek : h = k
       · subst ek; exact ⟨o', List.mem_cons_self, by simp [hset]⟩
       · obtain ⟨o2, m2, e2⟩ := ih (by simpa [keysH, ek] using hk)
         exact ⟨o2, List.mem_cons_of_mem _ m2, by simp [hset, ek]; exact e2⟩
     obtain ⟨o', m, e⟩ := this
     have hh' := hl h o' (List.mem_cons_of_mem _ m)
     rw [hh] at hh'; cases hh'
     exact e
    refine ⟨G1, e1, l1, ?_⟩
    have : hset hp ((h, o) :: r) = hset hp r := by
     funext n
     simp only [hset]
     split
     · rename_i e; rw [e]; exact he.symm
     · rfl
    rw [this]; exact H1
  · have hh1 : frzO (hset hp r h) = some o := by rw [hset_not hk]; exact hh
    obtain ⟨G2, e2, l2, H2⟩ := H1.freeze hh1
    exact ⟨G2, e2.trans e1, GW.le_trans l1 l2, by rw [hset_cons]; exact H2⟩
theorem frzCells_spec {hp : Nat → HObj} (cs : AP) (h : Nat) (o : HObj) (hm : (h, o) ∈ frzCells hp cs) : frzO (hp h) = some o := by
 fun_induction frzCells hp cs with
 | case1 k r u xs hh ih =>
  rcases List.mem_cons.1 hm with e | hm
  · cases e; rw [hh]; rfl
  · exact ih hm
 | _ =>
  first
   | (rename_i ih; exact ih hm)
   | cases hm
theorem frzArgs_spec {hp : Nat → HObj} (s : Sh) (args : List AP) (h : Nat) (o : HObj) (hm : (h, o) ∈ frzArgs hp s args) : frzO (hp h) = some o := by
 fun_induction frzArgs hp s args with
 | case1 t s k r u xs hh ih =>
  rcases List.mem_cons.1 hm with e | hm
  · cases e; rw [hh]; rfl
  · exact ih hm
 | case3 t s k off r cs hh hc ih =>
  rcases List.mem_cons.1 hm with e | hm
  · cases e; rw [hh]; simp only [frzO, hc]
  · exact ih hm
 | case6 =>
  rename_i hh ih
  rcases List.mem_cons.1 hm with e | hm
  · cases e; rw [hh]; rfl
  · exact ih hm
 | case8 f cs s g caps r ih1 ih2 =>
  rcases List.mem_append.1 hm with hm | hm
  · exact ih1 hm
  · exact ih2 hm
 | case9 =>
  rename_i ih
  rcases List.mem_append.1 hm with hm | hm
  · exact frzCells_spec _ _ _ hm
  · exact ih hm
 | _ =>
  first
   | (rename_i ih; exact ih hm)
   | cases hm
theorem HInv.frameR {C : Ctx} {hp : Nat → HObj} {β : Asg} {G : GW} (H : HInv C hp β G) {R : List Nat} {C1 : Ctx} (hC : C1.G0 = G) (hF : ∀ b i, C1.F0 b i → ∃ h v, h ∈ R ∧ β h = some v ∧ fpc (hp h) v b i) (hFo : ∀ b, C1.Fo0 b → ∃ h v, h ∈ R ∧ β h = some v ∧ fpo (hp h) v b)
    {hp1 : Nat → HObj} {β1 : Asg} {G1 : GW} (H1 : HInv C1 hp1 β1 G1) (hp2 : Nat → HObj) (β2 : Asg) (K : Nat → Prop) (src : Nat → Nat → Prop) (hRK : ∀ h ∈ R, K h) (hK : ∀ h, ¬ K h → hp2 h = hp h ∧ β2 h = β h) (hle : β.le β2)
    (hno : ∀ h, K h → hp2 h = .none → β2 h = none) (hsat : ∀ h, K h → hp2 h ≠ .none → ∃ v, β2 h = some v ∧ satH (hp2 h) v β2 G1)
    (hsrc : ∀ h v, K h → β2 h = some v → Owns (hp2 h) v → Src β1 hp1 src h (hp2 h) v)
    (hinj : ∀ h h' m, src h m → src h' m → h = h') : HInv C hp2 β2 G1 := by
 have hst := H1.step
 rw [hC] at hst
 have hown : ∀ h v, K h → β2 h = some v → ∀ b i, fpc (hp2 h) v b i → C1.F0 b i ∨ G.w.heap.size ≤ b := fun h v hk hv b i hf => by
  obtain ⟨m, _, e, f, _⟩ := hsrc h v hk hv (.inl ⟨b, i, hf⟩)
  have := H1.own _ v e b i (f b i hf)
  rwa [hC] at this
 have howno : ∀ h v, K h → β2 h = some v → ∀ b, fpo (hp2 h) v b → C1.Fo0 b ∨ G.w.heap.size ≤ b := fun h v hk hv b hf => by
  obtain ⟨m, _, e, _, f⟩ := hsrc h v hk hv (.inr ⟨b, hf⟩)
  have := H1.owno _ v e b (f b hf)
  rwa [hC] at this
 refine ⟨H.heap.gen K hst hle hK (fun b i hf => ?_) (fun b hf => ?_) hno hsat (fun h v hk hv b i hf => ⟨?_, ?_⟩) (fun h v hk hv b hf => ⟨?_, ?_⟩)
  (fun h h' v v' hk hk' hne hv hv' b i hf hf' => ?_) (fun h h' v v' hk hk' hne hv hv' b hf hf' => ?_) H1.heap.old H1.heap.oldo, H.step.trans hst (fun b i hf => ?_) (fun b hf => ?_), fun h v hv b i hf => ?_, fun h v hv b hf => ?_, fun g t x hx => (H.glob g t x hx).mono hst.le⟩
 · obtain ⟨h, v, hr, hv, hf⟩ := hF b i hf; exact ⟨h, v, hRK h hr, hv, hf⟩
 · obtain ⟨h, v, hr, hv, hf⟩ := hFo b hf; exact ⟨h, v, hRK h hr, hv, hf⟩
 · refine (hown h v hk hv b i hf).imp (fun hf => ?_) id
   obtain ⟨h, v, hr, hv, hf⟩ := hF b i hf; exact ⟨h, v, hRK h hr, hv, hf⟩
 · obtain ⟨m, _, e, f, _⟩ := hsrc h v hk hv (.inl ⟨b, i, hf⟩); exact H1.heap.im _ v e b i (f b i hf)
 · refine (howno h v hk hv b hf).imp (fun hf => ?_) id
   obtain ⟨h, v, hr, hv, hf⟩ := hFo b hf; exact ⟨h, v, hRK h hr, hv, hf⟩
 · obtain ⟨m, _, e, _, f⟩ := hsrc h v hk hv (.inr ⟨b, hf⟩); exact H1.heap.imo _ v e b (f b hf)
 · obtain ⟨m, s, e, f, _⟩ := hsrc h v hk hv (.inl ⟨b, i, hf⟩)
   obtain ⟨m', s', e', f', _⟩ := hsrc h' v' hk' hv' (.inl ⟨b, i, hf'⟩)
   exact H1.heap.dis _ _ v v' (fun eq => hne (hinj h h' m s (by rw [eq]; exact s'))) e e' b i (f b i hf) (f' b i hf')
 · obtain ⟨m, s, e, _, f⟩ := hsrc h v hk hv (.inr ⟨b, hf⟩)
   obtain ⟨m', s', e', _, f'⟩ := hsrc h' v' hk' hv' (.inr ⟨b, hf'⟩)
   exact H1.heap.diso _ _ v v' (fun eq => hne (hinj h h' m s (by rw [eq]; exact s'))) e e' b (f b hf) (f' b hf')
 · obtain ⟨h, v, hr, hv, hf⟩ := hF b i hf; exact H.own h v hv b i hf
 · obtain ⟨h, v, hr, hv, hf⟩ := hFo b hf; exact H.owno h v hv b hf
 · by_cases hk : K h
   · rcases hown h v hk hv b i hf with hf | hsz
     · obtain ⟨h0, v0, _, hv0, hf0⟩ := hF b i hf; exact H.own h0 v0 hv0 b i hf0
     · exact .inr (Nat.le_trans H.step.size hsz)
   · rw [(hK h hk).2] at hv; rw [(hK h hk).1] at hf; exact H.own h v hv b i hf
 · by_cases hk : K h
   · rcases howno h v hk hv b hf with hf | hsz
     · obtain ⟨h0, v0, _, hv0, hf0⟩ := hFo b hf; exact H.owno h0 v0 hv0 b hf0
     · exact .inr (Nat.le_trans H.step.size hsz)
   · rw [(hK h hk).2] at hv; rw [(hK h hk).1] at hf; exact H.owno h v hv b hf
theorem HInv.ext {C : Ctx} {hp : Nat → HObj} : ∀ (ex : List (Nat × HObj)) {β : Asg} {G : GW}, HInv C hp β G → (keysH ex).Nodup → (∀ h o, (h, o) ∈ ex → hp h = .none ∧ ((∃ t, o = .row t []) ∨ ∃ t, o = .spare t)) →
    ∃ βx, HInv C (hset hp ex) βx G ∧ β.le βx ∧ (∀ h o, (h, o) ∈ ex → βx h = some (.slice none 0 0)) ∧ ∀ h, h ∉ keysH ex → βx h = β h
 | [], β, G, H, _, _ => ⟨β, H, Asg.le_refl β, fun _ _ h => (by cases h), fun _ _ => rfl⟩
 | (n, o) :: r, β, G, H, hnd, hex => by
  simp only [keysH, List.map_cons, List.nodup_cons] at hnd
  obtain ⟨βx, H1, l1, h1, h2⟩ := HInv.ext r H hnd.2 (fun h o hm => hex h o (List.mem_cons_of_mem _ hm))
  obtain ⟨hn, ho⟩ := hex n o List.mem_cons_self
  have hn1 : hset hp r n = .none := by rw [hset_not hnd.1]; exact hn
  have hnb : βx n = none := H1.heap.no n hn1
  have H2 := H1.name hn1 o (.slice none 0 0) (by rcases ho with ⟨t, rfl⟩ | ⟨t, rfl⟩ <;> simp) (by
   rcases ho with ⟨t, rfl⟩ | ⟨t, rfl⟩
   · exact nil_slice_sat
   · exact nil_spare_sat) (fun b i hf => by rcases ho with ⟨t, rfl⟩ | ⟨t, rfl⟩ <;> cases hf) (fun b hf => by rcases ho with ⟨t, rfl⟩ | ⟨t, rfl⟩ <;> cases hf)
  refine ⟨_, by rw [hset_cons]; exact H2, Asg.le_trans l1 (asg_le H1.heap hn1 _), fun h o' hm => ?_, fun h hk => ?_⟩
  · rcases List.mem_cons.1 hm with e | hm
    · cases e; simp
    · by_cases e : h = n
      · simp [e]
      · simp only [e, if_false]; exact h1 h o' hm
  · simp only [keysH, List.map_cons, List.mem_cons, not_or] at hk
    simp only [hk.1, if_false]
    exact h2 h hk.2
theorem fromA_ex {hp : Nat → HObj} : ∀ (s : Sh) (X : AP) (nx : Nat) (x : SDat s) (ns : List Nat) (ex : List (Nat × HObj)) (nx' : Nat), fromA hp s X nx = some ⟨x, ns, ex, nx'⟩ →
    nx ≤ nx' ∧ (keysH ex).Nodup ∧ (∀ h o, (h, o) ∈ ex → nx ≤ h ∧ h < nx' ∧ ((∃ t, o = .row t []) ∨ ∃ t, o = .spare t)) ∧ (∀ h ∈ ns, hp h ≠ .none ∨ h ∈ keysH ex) := by
 intro s
 induction s with
 | d t =>
  intro X nx x ns ex nx' h
  unfold fromA at h
  split at h
  · simp only [Option.some.injEq, Fr.mk.injEq] at h; obtain ⟨rfl, rfl, rfl, rfl⟩ := h
    exact ⟨Nat.le_refl _, by simp [keysH], fun h o hm => (by cases hm), fun h hm => (by cases hm)⟩
  · cases h
 | row t =>
  intro X nx x ns ex nx' h
  unfold fromA at h
  split at h
  · split at h
    · rename_i hh
      split at h
      · simp only [Option.some.injEq, Fr.mk.injEq] at h; obtain ⟨rfl, rfl, rfl, rfl⟩ := h
        exact ⟨Nat.le_refl _, by simp [keysH], fun h o hm => (by cases hm), fun h hm => (by rw [List.mem_singleton] at hm; subst hm; exact .inl (by rw [hh]; simp))⟩
      · cases h
    · cases h
  · simp only [Option.some.injEq, Fr.mk.injEq] at h; obtain ⟨rfl, rfl, rfl, rfl⟩ := h
    exact ⟨by omega, by simp [keysH], fun h o hm => (by rw [List.mem_singleton] at hm; cases hm; exact ⟨Nat.le_refl _, by omega, .inl ⟨_, rfl⟩⟩), fun h hm => by rw [List.mem_singleton] at hm; subst hm; exact .inr (by simp [keysH])⟩
  · cases h
 | take t =>
  intro X nx x ns ex nx' h
  unfold fromA at h
  split at h
  · split at h
    · rename_i hh
      split at h
      · simp only [Option.some.injEq, Fr.mk.injEq] at h; obtain ⟨rfl, rfl, rfl, rfl⟩ := h
        exact ⟨Nat.le_refl _, by simp [keysH], fun h o hm => (by cases hm), fun h hm => (by rw [List.mem_singleton] at hm; subst hm; exact .inl (by rw [hh]; simp))⟩
      · cases h
    · cases h
  · simp only [Option.some.injEq, Fr.mk.injEq] at h; obtain ⟨rfl, rfl, rfl, rfl⟩ := h
    exact ⟨by omega, by simp [keysH], fun h o hm => (by rw [List.mem_singleton] at hm; cases hm; exact ⟨Nat.le_refl _, by omega, .inl ⟨_, rfl⟩⟩), fun h hm => by rw [List.mem_singleton] at hm; subst hm; exact .inr (by simp [keysH])⟩
  · cases h
 | spare t =>
  intro X nx x ns ex nx' h
  unfold fromA at h
  split at h
  · split at h
    · rename_i hh
      split at h
      · simp only [Option.some.injEq, Fr.mk.injEq] at h; obtain ⟨rfl, rfl, rfl, rfl⟩ := h
        exact ⟨Nat.le_refl _, by simp [keysH], fun h o hm => (by cases hm), fun h hm => (by rw [List.mem_singleton] at hm; subst hm; exact .inl (by rw [hh]; simp))⟩
      · cases h
    · cases h
  · simp only [Option.some.injEq, Fr.mk.injEq] at h; obtain ⟨rfl, rfl, rfl, rfl⟩ := h
    exact ⟨by omega, by simp [keysH], fun h o hm => (by rw [List.mem_singleton] at hm; cases hm; exact ⟨Nat.le_refl _, by omega, .inr ⟨_, rfl⟩⟩), fun h hm => by rw [List.mem_singleton] at hm; subst hm; exact .inr (by simp [keysH])⟩
  · cases h
 | map k v =>
  intro X nx x ns ex nx' h
  unfold fromA at h
  split at h
  · split at h
    · rename_i hh
      split at h
      · simp only [Option.some.injEq, Fr.mk.injEq] at h; obtain ⟨rfl, rfl, rfl, rfl⟩ := h
        exact ⟨Nat.le_refl _, by simp [keysH], fun h o hm => (by cases hm), fun h hm => (by rw [List.mem_singleton] at hm; subst hm; exact .inl (by rw [hh]; simp))⟩
      · cases h
    · cases h
  · cases h
 | ob κ =>
  intro X nx x ns ex nx' h
  unfold fromA at h
  split at h
  · split at h
    · rename_i hh
      split at h
      · simp only [Option.some.injEq, Fr.mk.injEq] at h; obtain ⟨rfl, rfl, rfl, rfl⟩ := h
        exact ⟨Nat.le_refl _, by simp [keysH], fun h o hm => (by cases hm), fun h hm => (by rw [List.mem_singleton] at hm; subst hm; exact .inl (by rw [hh]; simp))⟩
      · cases h
    · cases h
  · cases h
 | box cs ih =>
  intro X nx x ns ex nx' h
  unfold fromA at h
  split at h
  · split at h
    · rename_i hh
      split at h
      · rename_i hy
        simp only [Option.some.injEq, Fr.mk.injEq] at h; obtain ⟨rfl, rfl, rfl, rfl⟩ := h
        obtain ⟨i1, i2, i3, i4⟩ := ih _ _ _ _ _ _ hy
        refine ⟨i1, i2, i3, fun h hm => ?_⟩
        rcases List.mem_cons.1 hm with rfl | hm
        · exact .inl (by rw [hh]; simp)
        · exact i4 h hm
      · cases h
    · cases h
  · cases h
 | clos f cs ih =>
  intro X nx x ns ex nx' h
  unfold fromA at h
  split at h
  · split at h
    · split at h
      · rename_i hy
        simp only [Option.some.injEq, Fr.mk.injEq] at h; obtain ⟨rfl, rfl, rfl, rfl⟩ := h
        exact ih _ _ _ _ _ _ hy
      · cases h
    · cases h
  · cases h
 | agg cs ih =>
  intro X nx x ns ex nx' h
  unfold fromA at h
  split at h
  · split at h
    · rename_i hy
      simp only [Option.some.injEq, Fr.mk.injEq] at h; obtain ⟨rfl, rfl, rfl, rfl⟩ := h
      exact ih _ _ _ _ _ _ hy
    · cases h
  · cases h
 | self f cs ih =>
  intro X nx x ns ex nx' h
  unfold fromA at h
  split at h
  · split at h
    · rename_i hh
      split at h
      · split at h
        · rename_i hy _
          simp only [Option.some.injEq, Fr.mk.injEq] at h; obtain ⟨rfl, rfl, rfl, rfl⟩ := h
          obtain ⟨i1, i2, i3, i4⟩ := ih _ _ _ _ _ _ hy
          refine ⟨i1, i2, i3, fun h hm => ?_⟩
          rcases List.mem_cons.1 hm with rfl | hm
          · exact .inl (by rw [hh]; simp)
          · exact i4 h hm
        · cases h
      · cases h
    · cases h
  · cases h
 | nilp =>
  intro X nx x ns ex nx' h
  unfold fromA at h
  split at h
  · simp only [Option.some.injEq, Fr.mk.injEq] at h; obtain ⟨_, rfl, rfl, rfl⟩ := h
    exact ⟨Nat.le_refl _, by simp [keysH], fun h o hm => (by cases hm), fun h hm => (by cases hm)⟩
  · cases h
 | nils =>
  intro X nx x ns ex nx' h
  unfold fromA at h
  split at h
  · simp only [Option.some.injEq, Fr.mk.injEq] at h; obtain ⟨_, rfl, rfl, rfl⟩ := h
    exact ⟨Nat.le_refl _, by simp [keysH], fun h o hm => (by cases hm), fun h hm => (by cases hm)⟩
  · cases h
 | nil =>
  intro X nx x ns ex nx' h
  unfold fromA at h
  split at h
  · simp only [Option.some.injEq, Fr.mk.injEq] at h; obtain ⟨_, rfl, rfl, rfl⟩ := h
    exact ⟨Nat.le_refl _, by simp [keysH], fun h o hm => (by cases hm), fun h hm => (by cases hm)⟩
  · cases h
 | cons a b iha ihb =>
  intro X nx x ns ex nx' h
  unfold fromA at h
  split at h
  · split at h
    · rename_i hy
      split at h
      · rename_i hz
        simp only [Option.some.injEq, Fr.mk.injEq] at h; obtain ⟨rfl, rfl, rfl, rfl⟩ := h
        obtain ⟨a1, a2, a3, a4⟩ := iha _ _ _ _ _ _ hy
        obtain ⟨b1, b2, b3, b4⟩ := ihb _ _ _ _ _ _ hz
        refine ⟨Nat.le_trans a1 b1, ?_, fun h o hm => ?_, fun h hm => ?_⟩
        · simp only [keysH, List.map_append]
          refine List.nodup_append.2 ⟨a2, b2, fun u hu v hv => ?_⟩
          obtain ⟨⟨h1, o1⟩, m1, rfl⟩ := List.mem_map.1 hu
          obtain ⟨⟨h2, o2⟩, m2, rfl⟩ := List.mem_map.1 hv
          have := a3 h1 o1 m1
          have := b3 h2 o2 m2
          dsimp only; omega
        · rcases List.mem_append.1 hm with hm | hm
          · obtain ⟨c1, c2, c3⟩ := a3 h o hm
            exact ⟨c1, by omega, c3⟩
          · obtain ⟨c1, c2, c3⟩ := b3 h o hm
            exact ⟨by omega, c2, c3⟩
        · rcases List.mem_append.1 hm with hm | hm
          · exact (a4 h hm).imp id (fun hk => by simp only [keysH, List.map_append, List.mem_append] at hk ⊢; exact .inl hk)
          · exact (b4 h hm).imp id (fun hk => by simp only [keysH, List.map_append, List.mem_append] at hk ⊢; exact .inr hk)
      · cases h
    · cases h
  · cases h
end Go.Gv

/- Contracts, and that a call of a function that keeps its contract goes the ways the generator says. -/
namespace Go.Gv
open Go
def resV : List Value → Value
 | [v] => v
 | vs => .tuple vs.toArray
structure RetOK (C : Ctx) (ro : Bool) (ins : Sh) (A : Alt ins) (x : SDat ins) (β : Asg) (G : GW) (v : Value) (w' : World) : Prop where
 ex : ∃ (hp' : Nat → HObj) (β' : Asg) (G' : GW) (L : List AP) (vs : List Value) (nx : Nat) (y : SDat A.outs) (ns : List Nat) (ex : List (Nat × HObj)) (nx1 : Nat) (z : SDat (bk ro ins)) (ms : List Nat) (ey : List (Nat × HObj)) (nx2 : Nat),
  G'.w = w' ∧ HInv C hp' β' G' ∧ β.le β' ∧ G.le G' ∧ v = resV vs ∧ satT (listA L) β' G' vs ∧ (∀ n, nx ≤ n → hp' n = .none) ∧ fromA hp' A.outs (listA L) nx = some ⟨y, ns, ex, nx1⟩ ∧
  fromA hp' (bk ro ins) (bkEnd ro ins x) nx1 = some ⟨z, ms, ey, nx2⟩ ∧ nodupN (ns ++ ms) = true ∧ y = A.res x ∧ z = bkUpd ro A x ∧ idOK ro (nn ins) ms = true
def canon (s : Sh) (x : SDat s) : Nat → HObj := hset (fun _ => .none) (intoH (fun k => k) s x 0 [])
def SpecOK (P : Program) (gl : Glob) (f : FuncId) (S : Spec) : Prop :=
 (∃ fn, P.funcs[f]? = some fn ∧ fn.body.isNone = false ∧ (fn.name == "runtime.NumGoroutine") = false) ∧
 ∀ x, S.pre x → ∃ A, S.alts[S.sel x]? = some A ∧ ∀ (C : Ctx) (β : Asg) (G : GW) (args : List Value), C.glob = gl → (S.noisy = true → C.G0.nz) → HInv C (canon S.ins x) β G → satT (intoA (fun k => k) S.ins x 0) β G args →
  Calls P f args.toArray G.w (fun e w' => match e with
   | .returned v => RetOK C S.ro S.ins A x β G v w'
   | _ => False)
theorem nodupN_iff {l : List Nat} : nodupN l = true ↔ l.Nodup := by
 induction l with
 | nil => simp [nodupN]
 | cons a r ih =>
  simp only [nodupN, List.nodup_cons]
  split
  · rename_i h; have := memN_iff.1 h; simp [this]
  · rename_i h
    have : a ∉ r := fun hm => by rw [memN_iff.2 hm] at h; cases h
    simp [this, ih]
theorem zipN_keys (nm : Nat → Nat) : ∀ (l : List HObj) (n : Nat) (r : List (Nat × HObj)) (h : Nat) (o : HObj), (h, o) ∈ zipN nm l n r → (∃ k, l[k]? = some o ∧ h = nm (n + k)) ∨ (h, o) ∈ r
 | [], n, r, h, o, hm => .inr hm
 | a :: l, n, r, h, o, hm => by
  rcases List.mem_cons.1 hm with e | hm
  · cases e; exact .inl ⟨0, rfl, rfl⟩
  · rcases zipN_keys nm l (n + 1) r h o hm with ⟨k, h1, h2⟩ | h1
    · exact .inl ⟨k + 1, h1, by rw [h2]; congr 1; omega⟩
    · exact .inr h1
theorem zipN_mem (nm : Nat → Nat) : ∀ (l : List HObj) (n : Nat) (r : List (Nat × HObj)) (k : Nat) (o : HObj), l[k]? = some o → (nm (n + k), o) ∈ zipN nm l n r
 | [], n, r, k, o, h => by simp at h
 | a :: l, n, r, 0, o, h => by
  simp at h; subst h
  exact List.mem_cons_self
 | a :: l, n, r, k + 1, o, h => by
  have := zipN_mem nm l (n + 1) r k o (by simpa using h)
  rw [show n + 1 + k = n + (k + 1) by omega] at this
  exact List.mem_cons_of_mem _ this
theorem hset_zipN (nm : Nat → Nat) (hp : Nat → HObj) : ∀ (l : List HObj) (n : Nat) (r : List (Nat × HObj)) (h : Nat), hset hp (zipN nm l n r) h = hset (hset hp r) (zipN nm l n []) h
 | [], n, r, h => rfl
 | a :: l, n, r, h => by
  simp only [zipN, hset]
  split
  · rfl
  · exact hset_zipN nm hp l (n + 1) r h
theorem hset_zip_at (nm : Nat → Nat) (hp : Nat → HObj) : ∀ (l : List HObj) (n : Nat), (∀ i j, i < l.length → j < l.length → nm (n + i) = nm (n + j) → i = j) → ∀ (k : Nat) (o : HObj), l[k]? = some o → hset hp (zipN nm l n []) (nm (n + k)) = o
 | [], n, _, k, o, h => by simp at h
 | a :: l, n, hi, 0, o, h => by
  simp at h; subst h
  simp [zipN, hset]
 | a :: l, n, hi, k + 1, o, h => by
  have hk : k < l.length := (List.getElem?_eq_some_iff.1 (show l[k]? = some o by simpa using h)).1
  simp only [zipN, hset]
  have hne : ¬ nm (n + (k + 1)) = nm n := fun e => by
   have := hi (k + 1) 0 (by simp; omega) (by simp) e
   omega
  rw [if_neg hne]
  have := hset_zip_at nm hp l (n + 1) (fun i j h1 h2 e => by
   have := hi (i + 1) (j + 1) (by simp; omega) (by simp; omega) (by rwa [show n + (i + 1) = n + 1 + i by omega, show n + (j + 1) = n + 1 + j by omega])
   omega) k o (by simpa using h)
  rwa [show n + 1 + k = n + (k + 1) by omega] at this
theorem hset_zip_not (nm : Nat → Nat) (hp : Nat → HObj) : ∀ (l : List HObj) (n : Nat) (h : Nat), (∀ k, k < l.length → h ≠ nm (n + k)) → hset hp (zipN nm l n []) h = hp h
 | [], n, h, _ => rfl
 | a :: l, n, h, hh => by
  simp only [zipN, hset]
  rw [if_neg (by simpa using hh 0 (by simp))]
  exact hset_zip_not nm hp l (n + 1) h (fun k hk => by rw [show n + 1 + k = n + (k + 1) by omega]; exact hh (k + 1) (by simp; omega))
theorem canon_at (s : Sh) (x : SDat s) {k : Nat} {o : HObj} (h : (objsA (fun k => k) s x 0)[k]? = some o) : canon s x k = o := by
 unfold canon
 rw [intoH_eq]
 have := hset_zip_at (fun k => k) (fun _ => HObj.none) (objsA (fun k => k) s x 0) 0 (fun i j _ _ e => by omega) k o h
 rwa [Nat.zero_add] at this
theorem canon_out (s : Sh) (x : SDat s) {k : Nat} (h : nn s ≤ k) : canon s x k = .none := by
 unfold canon
 rw [intoH_eq]
 exact hset_zip_not (fun k => k) (fun _ => HObj.none) (objsA (fun k => k) s x 0) 0 k (fun j hj => by rw [objsA_len] at hj; omega)
theorem fromA_list {hp : Nat → HObj} {s : Sh} {L : List AP} {nx : Nat} {r : Fr (SDat s)} (h : fromA hp s (listA L) nx = some r) : (L = [] ∧ s = .nil) ∨ (∃ a b X L', L = X :: L' ∧ s = .cons a b ∧ ∃ nx' r', fromA hp b (listA L') nx' = some r') ∨ ∃ f cs X L', L = X :: L' ∧ s = .self f cs := by
 cases L with
 | nil =>
  cases s <;> first | (exact .inl ⟨rfl, rfl⟩) | skip
  all_goals (unfold listA fromA at h; try (cases h; done))
 | cons X L' =>
  cases s <;> try (first | (unfold listA fromA at h; cases h; done) | exact .inr (.inr ⟨_, _, _, _, rfl, rfl⟩))
  · rename_i a b
    unfold listA fromA at h
    refine .inr (.inl ⟨a, b, X, L', rfl, rfl, ?_⟩)
    dsimp only at h
    split at h
    · split at h
      · rename_i hz; exact ⟨_, _, hz⟩
      · cases h
    · cases h
theorem hset_zipN_cases (nm : Nat → Nat) (hp : Nat → HObj) : ∀ (l : List HObj) (n : Nat) (r : List (Nat × HObj)) (h : Nat), (∃ k o, l[k]? = some o ∧ h = nm (n + k) ∧ hset hp (zipN nm l n r) h = o) ∨ ((∀ k, k < l.length → h ≠ nm (n + k)) ∧ hset hp (zipN nm l n r) h = hset hp r h)
 | [], n, r, h => .inr ⟨fun k hk => by simp at hk, rfl⟩
 | a :: l, n, r, h => by
  by_cases e : h = nm n
  · exact .inl ⟨0, a, rfl, e, by simp [zipN, hset, e]⟩
  · rcases hset_zipN_cases nm hp l (n + 1) r h with ⟨k, o, h1, h2, h3⟩ | ⟨h1, h2⟩
    · exact .inl ⟨k + 1, o, by simpa using h1, by rw [h2]; congr 1; omega, by simp only [zipN, hset]; rw [if_neg e]; exact h3⟩
    · refine .inr ⟨fun k hk => ?_, by simp only [zipN, hset]; rw [if_neg e]; exact h2⟩
      cases k with
      | zero => exact e
      | succ k => rw [show n + (k + 1) = n + 1 + k by omega]; exact h1 k (by simpa using hk)
theorem hset_zip_congr (hp hp' : Nat → HObj) (he : ∀ h, hp h = hp' h) : ∀ (l : List (Nat × HObj)) (h : Nat), hset hp l h = hset hp' l h
 | [], h => he h
 | (k, o) :: l, h => by
  simp only [hset]
  split
  · rfl
  · exact hset_zip_congr hp hp' he l h
theorem hset_deadL (hp : Nat → HObj) : ∀ (l : List Nat) (r : List (Nat × HObj)) (h : Nat), hset hp (deadL l r) h = if h ∈ l then .dead else hset hp r h
 | [], r, h => by simp [deadL]
 | a :: l, r, h => by
  simp only [deadL, hset]
  by_cases e : h = a
  · simp [e]
  · rw [if_neg e, hset_deadL hp l r h]; simp [e]
theorem hset_nodup {hp : Nat → HObj} : ∀ {l : List (Nat × HObj)} {h : Nat} {o : HObj}, (keysH l).Nodup → (h, o) ∈ l → hset hp l h = o
 | [], _, _, _, hm => by cases hm
 | (k, a) :: l, h, o, hn, hm => by
  simp only [keysH, List.map_cons, List.nodup_cons] at hn
  simp only [hset]
  rcases List.mem_cons.1 hm with e | hm'
  · cases e; simp
  · have hne : ¬ h = k := fun e => by subst e; exact hn.1 (List.mem_map.2 ⟨(h, o), hm', rfl⟩)
    rw [if_neg hne]
    exact hset_nodup hn.2 hm'
theorem waysA_get {ro : Bool} {ins : Sh} (sel : Nat) (x : SDat ins) (ns : List Nat) (fz : List (Nat × HObj)) (nx nx1 : Nat) : ∀ (l : List (Alt ins)) (i j : Nat) (A : Alt ins), l[j]? = some A → (waysA ro sel x ns fz nx nx1 l i)[j]? = some (wayA ro A (sel = i + j) x ns fz nx nx1)
 | [], _, _, _, h => by simp at h
 | B :: l, i, 0, A, h => by
  simp at h; subst h; rfl
 | B :: l, i, j + 1, A, h => by
  have := waysA_get (ro := ro) sel x ns fz nx nx1 l (i + 1) j A (by simpa using h)
  simp only [waysA, List.getElem?_cons_succ, this]
  congr 2
  rw [show i + 1 + j = i + (j + 1) by omega]
theorem fromA_len (hp : Nat → HObj) : ∀ (s : Sh) (X : AP) (nx : Nat) (x : SDat s) (ns : List Nat) (ex : List (Nat × HObj)) (nx' : Nat), fromA hp s X nx = some ⟨x, ns, ex, nx'⟩ → ns.length = nn s := by
 intro s
 induction s with
 | d t =>
  intro X nx x ns ex nx' h
  unfold fromA at h
  split at h
  · simp only [Option.some.injEq, Fr.mk.injEq] at h; obtain ⟨rfl, rfl, rfl, rfl⟩ := h; rfl
  · cases h
 | row t =>
  intro X nx x ns ex nx' h
  unfold fromA at h
  split at h
  · split at h
    · split at h
      · simp only [Option.some.injEq, Fr.mk.injEq] at h; obtain ⟨rfl, rfl, rfl, rfl⟩ := h; rfl
      · cases h
    · cases h
  · simp only [Option.some.injEq, Fr.mk.injEq] at h; obtain ⟨rfl, rfl, rfl, rfl⟩ := h; rfl
  · cases h
 | take t =>
  intro X nx x ns ex nx' h
  unfold fromA at h
  split at h
  · split at h
    · split at h
      · simp only [Option.some.injEq, Fr.mk.injEq] at h; obtain ⟨rfl, rfl, rfl, rfl⟩ := h; rfl
      · cases h
    · cases h
  · simp only [Option.some.injEq, Fr.mk.injEq] at h; obtain ⟨rfl, rfl, rfl, rfl⟩ := h; rfl
  · cases h
 | spare t =>
  intro X nx x ns ex nx' h
  unfold fromA at h
  split at h
  · split at h
    · split at h
      · simp only [Option.some.injEq, Fr.mk.injEq] at h; obtain ⟨rfl, rfl, rfl, rfl⟩ := h; rfl
      · cases h
    · cases h
  · simp only [Option.some.injEq, Fr.mk.injEq] at h; obtain ⟨rfl, rfl, rfl, rfl⟩ := h; rfl
  · cases h
 | map k v =>
  intro X nx x ns ex nx' h
  unfold fromA at h
  split at h
  · split at h
    · split at h
      · simp only [Option.some.injEq, Fr.mk.injEq] at h; obtain ⟨rfl, rfl, rfl, rfl⟩ := h; rfl
      · cases h
    · cases h
  · cases h
 | ob κ =>
  intro X nx x ns ex nx' h
  unfold fromA at h
  split at h
  · split at h
    · split at h
      · simp only [Option.some.injEq, Fr.mk.injEq] at h; obtain ⟨rfl, rfl, rfl, rfl⟩ := h; rfl
      · cases h
    · cases h
  · cases h
 | box cs ih =>
  intro X nx x ns ex nx' h
  unfold fromA at h
  split at h
  · split at h
    · split at h
      · rename_i hy
        simp only [Option.some.injEq, Fr.mk.injEq] at h; obtain ⟨rfl, rfl, rfl, rfl⟩ := h
        have := ih _ _ _ _ _ _ hy
        simp [nn, this]
      · cases h
    · cases h
  · cases h
 | clos f cs ih =>
  intro X nx x ns ex nx' h
  unfold fromA at h
  split at h
  · split at h
    · split at h
      · rename_i hy
        simp only [Option.some.injEq, Fr.mk.injEq] at h; obtain ⟨rfl, rfl, rfl, rfl⟩ := h
        exact ih _ _ _ _ _ _ hy
      · cases h
    · cases h
  · cases h
 | agg cs ih =>
  intro X nx x ns ex nx' h
  unfold fromA at h
  split at h
  · split at h
    · rename_i hy
      simp only [Option.some.injEq, Fr.mk.injEq] at h; obtain ⟨rfl, rfl, rfl, rfl⟩ := h
      exact ih _ _ _ _ _ _ hy
    · cases h
  · cases h
 | self f cs ih =>
  intro X nx x ns ex nx' h
  unfold fromA at h
  split at h
  · split at h
    · split at h
      · split at h
        · rename_i hy _
          simp only [Option.some.injEq, Fr.mk.injEq] at h; obtain ⟨rfl, rfl, rfl, rfl⟩ := h
          have := ih _ _ _ _ _ _ hy
          simp [nn, this]
        · cases h
      · cases h
    · cases h
  · cases h
 | nilp =>
  intro X nx x ns ex nx' h
  unfold fromA at h
  split at h
  · simp only [Option.some.injEq, Fr.mk.injEq] at h; obtain ⟨_, rfl, rfl, rfl⟩ := h; rfl
  · cases h
 | nils =>
  intro X nx x ns ex nx' h
  unfold fromA at h
  split at h
  · simp only [Option.some.injEq, Fr.mk.injEq] at h; obtain ⟨_, rfl, rfl, rfl⟩ := h; rfl
  · cases h
 | nil =>
  intro X nx x ns ex nx' h
  unfold fromA at h
  split at h
  · simp only [Option.some.injEq, Fr.mk.injEq] at h; obtain ⟨_, rfl, rfl, rfl⟩ := h; rfl
  · cases h
 | cons a b iha ihb =>
  intro X nx x ns ex nx' h
  unfold fromA at h
  split at h
  · split at h
    · rename_i hy
      split at h
      · rename_i hz
        simp only [Option.some.injEq, Fr.mk.injEq] at h; obtain ⟨rfl, rfl, rfl, rfl⟩ := h
        simp [nn, iha _ _ _ _ _ _ hy, ihb _ _ _ _ _ _ hz]
      · cases h
    · cases h
  · cases h
theorem roots_spec {hp : Nat → HObj} : ∀ (s : Sh) (x : SDat s) (n nx : Nat) (z : SDat (backS s)) (ms : List Nat) (ey : List (Nat × HObj)) (nx2 : Nat), fromA hp (backS s) (endAP s x n) nx = some ⟨z, ms, ey, nx2⟩ →
    (rootsA s n).length = nn (backS s) ∧ ∀ (j k : Nat), (rootsA s n)[j]? = some (some k) → ms[j]? = some k ∧ n ≤ k ∧ k < n + nn s
 | .d t, x, n, nx, z, ms, ey, nx2, h => ⟨rfl, fun j k hj => by simp [rootsA] at hj⟩
 | .nilp, x, n, nx, z, ms, ey, nx2, h => ⟨rfl, fun j k hj => by simp [rootsA] at hj⟩
 | .nils, x, n, nx, z, ms, ey, nx2, h => ⟨rfl, fun j k hj => by simp [rootsA] at hj⟩
 | .nil, x, n, nx, z, ms, ey, nx2, h => ⟨rfl, fun j k hj => by simp [rootsA] at hj⟩
 | .spare t, x, n, nx, z, ms, ey, nx2, h => ⟨rfl, fun j k hj => by simp [rootsA] at hj⟩
 | .take t, x, n, nx, z, ms, ey, nx2, h => ⟨rfl, fun j k hj => by simp [rootsA] at hj⟩
 | .row t, x, n, nx, z, ms, ey, nx2, h => by
  refine ⟨rfl, fun j k hj => ?_⟩
  change fromA hp (.row t) (.ref n) nx = some ⟨z, ms, ey, nx2⟩ at h
  unfold fromA at h
  dsimp only at h
  split at h
  · split at h
    · simp only [Option.some.injEq, Fr.mk.injEq] at h; obtain ⟨rfl, rfl, rfl, rfl⟩ := h
      cases j with
      | zero => simp [rootsA] at hj; subst hj; exact ⟨rfl, Nat.le_refl _, by simp [nn]⟩
      | succ j => simp [rootsA] at hj
    · cases h
  · cases h
 | .map a b, x, n, nx, z, ms, ey, nx2, h => by
  refine ⟨rfl, fun j k hj => ?_⟩
  change fromA hp (.map a b) (.ref n) nx = some ⟨z, ms, ey, nx2⟩ at h
  unfold fromA at h
  dsimp only at h
  split at h
  · split at h
    · simp only [Option.some.injEq, Fr.mk.injEq] at h; obtain ⟨rfl, rfl, rfl, rfl⟩ := h
      cases j with
      | zero => simp [rootsA] at hj; subst hj; exact ⟨rfl, Nat.le_refl _, by simp [nn]⟩
      | succ j => simp [rootsA] at hj
    · cases h
  · cases h
 | .ob κ, x, n, nx, z, ms, ey, nx2, h => by
  refine ⟨rfl, fun j k hj => ?_⟩
  change fromA hp (.ob κ) (.ref n) nx = some ⟨z, ms, ey, nx2⟩ at h
  unfold fromA at h
  dsimp only at h
  split at h
  · split at h
    · simp only [Option.some.injEq, Fr.mk.injEq] at h; obtain ⟨rfl, rfl, rfl, rfl⟩ := h
      cases j with
      | zero => simp [rootsA] at hj; subst hj; exact ⟨rfl, Nat.le_refl _, by simp [nn]⟩
      | succ j => simp [rootsA] at hj
    · cases h
  · cases h
 | .box cs, x, n, nx, z, ms, ey, nx2, h => by
  refine ⟨by simp [rootsA, backS, nn], fun j k hj => ?_⟩
  change fromA hp (.box cs) (.loc n 0) nx = some ⟨z, ms, ey, nx2⟩ at h
  have key : ∃ l, ms = n :: l := by
   unfold fromA at h
   split at h
   · rename_i heq
     cases heq
     split at h
     · split at h
       · simp only [Option.some.injEq, Fr.mk.injEq] at h; obtain ⟨rfl, rfl, rfl, rfl⟩ := h
         exact ⟨_, rfl⟩
       · cases h
     · cases h
   · cases h
  obtain ⟨l, rfl⟩ := key
  cases j with
  | zero => simp [rootsA] at hj; subst hj; exact ⟨rfl, Nat.le_refl _, by simp [nn]⟩
  | succ j => simp [rootsA, List.getElem?_replicate] at hj
 | .clos f cs, x, n, nx, z, ms, ey, nx2, h => by
  change fromA hp (.clos f (backS cs)) (.clos f (endAP cs x n)) nx = some ⟨z, ms, ey, nx2⟩ at h
  unfold fromA at h
  dsimp only at h
  split at h
  · split at h
    · rename_i y ys ey1 nx1 hy
      simp only [Option.some.injEq, Fr.mk.injEq] at h; obtain ⟨rfl, rfl, rfl, rfl⟩ := h
      exact roots_spec cs x n nx _ _ _ _ hy
    · cases h
  · cases h
 | .agg cs, x, n, nx, z, ms, ey, nx2, h => by
  change fromA hp (.agg (backS cs)) (.agg (endAP cs x n)) nx = some ⟨z, ms, ey, nx2⟩ at h
  unfold fromA at h
  dsimp only at h
  split at h
  · rename_i y ys ey1 nx1 hy
    simp only [Option.some.injEq, Fr.mk.injEq] at h; obtain ⟨rfl, rfl, rfl, rfl⟩ := h
    exact roots_spec cs x n nx _ _ _ _ hy
  · cases h
 | .self f cs, x, n, nx, z, ms, ey, nx2, h => by
  change fromA hp (.self f (backS cs)) (snocA (endAP cs x (n + 1)) (.loc n 0)) nx = some ⟨z, ms, ey, nx2⟩ at h
  unfold fromA at h
  split at h
  · rename_i Y hn hX
    split at h
    · split at h
      · split at h
        · rename_i y ys ey1 nx1 hy hlst
          simp only [Option.some.injEq, Fr.mk.injEq] at h; obtain ⟨rfl, rfl, rfl, rfl⟩ := h
          rw [unsnoc_snoc (isL_end cs (lstS_back cs hlst) x (n + 1))] at hX
          simp only [Option.some.injEq, Prod.mk.injEq, AP.loc.injEq, and_true] at hX
          obtain ⟨e1, rfl⟩ := hX
          obtain ⟨a1, a2⟩ := roots_spec cs x (n + 1) nx _ _ _ _ (by rw [e1]; exact hy)
          refine ⟨by simp [rootsA, backS, nn, a1], fun j k hj => ?_⟩
          cases j with
          | zero => simp [rootsA] at hj; subst hj; exact ⟨rfl, Nat.le_refl _, by simp [nn]⟩
          | succ j =>
           obtain ⟨h1, h2, h3⟩ := a2 j k (by simpa [rootsA] using hj)
           exact ⟨by simpa using h1, by omega, by simp only [nn]; omega⟩
        · cases h
      · cases h
    · cases h
  · cases h
 | .cons a b, x, n, nx, z, ms, ey, nx2, h => by
  change fromA hp (.cons (backS a) (backS b)) (.cons (endAP a x.1 n) (endAP b x.2 (n + nn a))) nx = some ⟨z, ms, ey, nx2⟩ at h
  unfold fromA at h
  dsimp only at h
  split at h
  · rename_i y ys ey1 nx1 hy
    split at h
    · rename_i w ws ey2 nx3 hw
      simp only [Option.some.injEq, Fr.mk.injEq] at h; obtain ⟨rfl, rfl, rfl, rfl⟩ := h
      obtain ⟨a1, a2⟩ := roots_spec a x.1 n nx y ys ey1 nx1 hy
      obtain ⟨b1, b2⟩ := roots_spec b x.2 (n + nn a) nx1 w ws ey2 _ hw
      have hla : ys.length = nn (backS a) := fromA_len hp _ _ _ _ _ _ _ hy
      refine ⟨by simp [rootsA, backS, nn, a1, b1], fun j k hj => ?_⟩
      simp only [rootsA] at hj
      by_cases hlt : j < (rootsA a n).length
      · rw [List.getElem?_append_left hlt] at hj
        obtain ⟨h1, h2, h3⟩ := a2 j k hj
        refine ⟨by rw [List.getElem?_append_left (List.getElem?_eq_some_iff.1 h1).1]; exact h1, h2, by simp only [nn]; omega⟩
      · rw [List.getElem?_append_right (by omega)] at hj
        obtain ⟨h1, h2, h3⟩ := b2 _ k hj
        refine ⟨by rw [List.getElem?_append_right (by omega), hla, ← a1]; exact h1, by omega, by simp only [nn]; omega⟩
    · cases h
  · cases h
end Go.Gv
