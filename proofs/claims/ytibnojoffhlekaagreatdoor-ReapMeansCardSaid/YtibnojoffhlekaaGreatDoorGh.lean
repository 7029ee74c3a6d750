/- A verified generator of conditions over the code of the model. Part 8. -/
import Derived.Test.YtibnojoffhlekaaGreatDoorGg
import Derived.Shelf.Strconv.Itoa1
import Derived.Shelf.Strconv.Itoa2
import Derived.Lib.ItoaMem
import Derived.Lib.AppendIntMem
import Derived.Lib.SlFresh
import Derived.OwnWalk
import Derived.Shelf.Strings.OnBuilder
import Derived.Sort.Grow
import Derived.Shelf.Strconv.Itoa3
import Derived.Lib.ItoaLen
import Derived.Shelf.SlSortCmp.InsertionK
import Derived.Shelf.Small.Bits
import Derived.Shelf.Sort.Plain
import Derived.Shelf.Slices.CompactI
import Derived.Shelf.SlIterI.Nil
import Derived.Shelf.SlSortCmp.NoneTotal
import Derived.Shelf.SlSortCmp.Pdq1
set_option linter.all false

/- Decimal numerals: what the library's functions on them come to, as contracts, over any numbering. -/
namespace Go.Gv
open Go Go.Proofs Go.Shelf Go.RowKit Go.Sort
variable {P : Program} {ρ : Ren}
def digU (n : Nat) : List Int := (Lib.decDigits n).map (fun b : UInt8 => (b.toNat : Int))
@[reducible] def smallSpec : Spec := { ins := .cons (.d (.int .i64)) .nil, pre := fun x => 0 ≤ x.1 ∧ x.1 < 100, alts := [{ outs := .cons (.d .str) .nil, res := fun x => (Lib.decDigits x.1.toNat, ()) }] }
theorem dat1 {t : Ty} {x : Dat t} {β : Asg} {G : GW} {args : List Value} (h : satT (.cons (.dat t x) .nil) β G args) : ∃ v, args = [v] ∧ RepV t x G v := by
 unfold satT at h
 obtain ⟨v, l, rfl, h1, h2⟩ := h
 unfold satT at h2
 subst h2
 unfold sat at h1
 exact ⟨v, rfl, h1⟩
theorem dat1_mk {t : Ty} {x : Dat t} {β : Asg} {G : GW} {v : Value} (h : RepV t x G v) : satT (.cons (.dat t x) .nil) β G [v] := by
 unfold satT
 exact ⟨v, [], rfl, by unfold sat; exact h, by unfold satT; rfl⟩
theorem int_rep {k : IntKind} {x : Int} {G : GW} {v : Value} (h : RepV (.int k) x G v) : v = .int k x ∧ lo k ≤ x ∧ x ≤ hi k := by
 have := h.to_one rfl
 unfold Rep at this
 simp only [List.cons.injEq, and_true] at this
 exact ⟨this.1, has_iff.1 this.2⟩
theorem decDigits_le (n : Nat) (h : n < 18446744073709551616) : (Lib.decDigits n).length ≤ 20 := by
 rw [Lib.decDigits_length]
 rcases Nat.lt_or_ge n 10 with h1 | h1
 · rw [Lib.nDigits_small h1]; omega
 · have := Lib.numDigits_eq n (by omega) h
   split at this <;> omega
theorem small_ok {gl : Glob} (L : Lays.n283 P ρ) {fn : Func} {n : Nat} (hf : FnOK P (ρ.f 283) fn n) : SpecOK P gl (ρ.f 283) smallSpec :=
 pure_ok hf rfl rfl fun x hp β G args _ ha => by
  obtain ⟨i, ⟨⟩⟩ := x
  obtain ⟨v, rfl, hv⟩ := dat1 ha
  obtain ⟨rfl, h1, h2⟩ := int_rep hv
  have hp : 0 ≤ i ∧ i < 100 := hp
  have h0 : @LE.le Int _ 0 i := hp.1
  have h9 : @LT.lt Int _ i 100 := hp.2
  clear hp
  replace h1 : @LE.le Int _ (lo .i64) i := h1
  generalize (i : Int) = i at *
  obtain ⟨u, rfl⟩ : ∃ u : Nat, i = u := ⟨i.toNat, (Int.toNat_of_nonneg h0).symm⟩
  have hu : u < 100 := by omega
  refine Calls.mono (Any.internal_strconv_small L u hu G.w) fun e w' h => ?_
  obtain ⟨rfl, rfl⟩ := h
  refine ⟨[_], rfl, rfl, dat1_mk (.of_one rfl ?_)⟩
  unfold Rep
  refine ⟨rfl, ?_⟩
  have := decDigits_le u (by omega)
  show (Lib.decDigits u).length ≤ maxLen
  unfold maxLen
  omega
set_option maxHeartbeats 2000000 in
set_option maxRecDepth 100000 in
theorem numDigits_calls (L : Lays.n284 P ρ) (u : Nat) (h1 : 1 ≤ u) (h2 : u < 18446744073709551616) (w : World)
    (hcell : w.cell? ⟨ρ.g 17, Lib.l10 (Lib.bitLen u), none⟩ = some (.int .u64 ((10 ^ Lib.l10 (Lib.bitLen u) : Nat) : Int))) :
    Calls P (ρ.f 284) #[.int .u64 u] w fun e w' => e = .returned (.int .i64 (Lib.nDigits u)) ∧ w' = w := by
 have mixed := L.mixed
 have t53 := L.t53; have a53 := L.a53; have z53 := L.z53; have v53 := L.v53
 have t3 := L.t3; have a3 := L.a3; have z3 := L.z3; have v3 := L.v3
 have t212 := L.t212; have a212 := L.a212; have z212 := L.z212; have v212 := L.v212
 have t0 := L.t0; have a0 := L.a0; have z0 := L.z0; have v0 := L.v0
 have t4 := L.t4; have a4 := L.a4; have z4 := L.z4; have v4 := L.v4
 have e129 : ∀ args w, (callFunc (ρ.f 129) args).run P w = .ok (.enter (ρ.f 129) args) w := enters_of L.f129 (by kernel_rfl) rfl
 have e317 : ∀ args w, (callFunc (ρ.f 317) args).run P w = .ok (.enter (ρ.f 317) args) w := enters_of L.f317 (by kernel_rfl) rfl
 have e318 : ∀ args w, (callFunc (ρ.f 318) args).run P w = .ok (.enter (ρ.f 318) args) w := enters_of L.f318 (by kernel_rfl) rfl
 obtain ⟨hnd, h19⟩ := Lib.numDigits_eq u h1 h2
 have hL : Lib.bitLen u ≤ 64 := Lib.bitLen_le u 64 (Nat.le_refl _) h2
 have hto : ((u : Int)).toNat = u := by omega
 generalize hq : Lib.l10 (Lib.bitLen u) = q at hnd h19 hcell
 generalize hT : 10 ^ q = T at hnd hcell
 have h20 : q < 20 := by omega
 have Hnd := Lib.hid hnd
 clear hnd
 go_enter L.f284, Body.n284_ntmps ρ
 go_wp2_with (first
  | (go_at_fn (ρ.f 129); refine (Any.bits_Len64 { L with } _ _ (by omega) (by omega)).mono ?_; rintro e w' ⟨rfl, rfl⟩)
  | (go_at_fn (ρ.f 317); refine (Any.internal_strconv_log10Pow2 { L with } _ (by first | exact hL | (rw [hto]; exact hL)) _).mono ?_; rintro e w' ⟨rfl, rfl⟩)
  | (go_at_fn (ρ.f 318); refine (Any.internal_strconv_bool2_int { L with } _ _).mono ?_; rintro e w' ⟨rfl, rfl⟩))
 all_goals go_ret
 all_goals (
  refine ⟨?_, rfl⟩
  have hnd := Hnd.out
  congr 2
  split at hnd <;> simp_all <;> omega)
theorem cons2 {a b : AP} {β : Asg} {G : GW} {args : List Value} (h : satT (.cons a b) β G args) : ∃ v l, args = v :: l ∧ sat a β G v ∧ satT b β G l := by
 unfold satT at h
 exact h
theorem nil2 {β : Asg} {G : GW} {args : List Value} (h : satT .nil β G args) : args = [] := by
 unfold satT at h
 exact h
theorem app_spare {E : Env} (hE : E.ok P = true) {C : Ctx} {hp : Nat → HObj} {nx h : Nat} {T ty : TypeId} {nb : Nat} (hT : E.ty T = some (.sl (.int .u8), nb)) {xs ys : List Int} {β : Asg} {G : GW} (H : HInv C hp β G) (hn : hp nx = .none) (hh : hp h = .spare (.int .u8))
    {u v : Value} (hu : sat (.sl h (.int .u8) xs) β G u) (hv : RepV (.sl (.int .u8)) ys G v) (hroom : xs.length + ys.length ≤ 2000000000) :
    ∃ v' β' G', (Builtin.append_ #[T, T] ty #[u, v]).run P G.w = .ok v' G'.w ∧ HInv C (hset hp [(nx, .spare (.int .u8)), (h, .dead)]) β' G' ∧ β.le β' ∧ G.le G' ∧ sat (.sl nx (.int .u8) (xs ++ ys)) β' G' v' := by
 have he : appendA E hp nx T T (.sl h (.int .u8) xs) (.dat (.sl (.int .u8)) ys) = some { vc := [room (xs.length + ys.length : Nat) ((Ty.int .u8).size * 64)], ap := .sl nx (.int .u8) (xs ++ ys), hw := [(nx, .spare (.int .u8)), (h, .dead)], k := 1 } := by
  unfold appendA
  rw [hT]
  have e1 : elemsT hp (.int .u8) (some (Ty.sl (.int .u8), nb)) (.dat (.sl (.int .u8)) ys) = some ys := by
   unfold elemsT elemsA
   simp only [slV, castDat_self]
  dsimp only
  rw [e1]
  dsimp only
  rw [hh, castDat_self]
  dsimp only
  rw [decide_eq_true (rfl : Ty.int .u8 = .int .u8)]
 obtain ⟨v', β', G', h1, h2, h3, h4, h5⟩ := appendA_run (P := P) (ty := ty) (ats := #[T, T]) hE rfl rfl H hn he (fun p hp => by
  simp only [List.mem_singleton] at hp
  subst hp
  unfold room
  simp only [Ty.size]
  omega) hu (by unfold sat; exact hv)
 exact ⟨v', β', G', h1, h2, h3, h4, h5⟩
@[reducible] def appU (q : Int → Prop) : Spec := { ins := .cons (.spare (.int .u8)) (.cons (.d (.int .u64)) (.cons (.d (.int .i64)) .nil)), pre := fun x => (x.2.2.1 = 10 ∧ List.length x.1 ≤ 1100000000) ∧ q x.2.1, alts := [{ outs := .cons (.spare (.int .u8)) .nil, res := fun x => (x.1 ++ digU x.2.1.toNat, ()) }] }
set_option maxHeartbeats 12800000 in
set_option maxRecDepth 100000 in
theorem appU_big {gl : Glob} (L : Lays.n288 P ρ) {E : Env} (hE : E.ok P = true) {nb : Nat} (hT : E.ty (ρ.t 37) = some (.sl (.int .u8), nb)) {fn : Func} {n : Nat} (hf : FnOK P (ρ.f 288) fn n)
    (hgl : gl (ρ.g 17) = some ⟨.arr 20 (.int .u64), Lib.pow10Tab⟩) : SpecOK P gl (ρ.f 288) (appU (fun u => ¬ u < 100)) := by
 refine ⟨⟨fn, hf.at', by have := hf.body; revert this; cases fn.body <;> simp, hf.name⟩, fun x hpre => ⟨_, rfl, fun C β G args hg hz H hargs => ?_⟩⟩
 obtain ⟨xs, ui, bi, ⟨⟩⟩ := x
 obtain ⟨⟨h10, hxl⟩, hbig⟩ : (bi = 10 ∧ List.length xs ≤ 1100000000) ∧ ¬ ui < 100 := hpre
 obtain ⟨sv, l1, rfl, hs, hl1⟩ := cons2 hargs
 obtain ⟨v1, l2, rfl, hs1, hl2⟩ := cons2 hl1
 obtain ⟨v2, l3, rfl, hs2, hl3⟩ := cons2 hl2
 obtain rfl := nil2 hl3
 unfold sat at hs1 hs2
 obtain ⟨rfl, hu0, hu1⟩ := int_rep hs1
 obtain ⟨rfl, _, _⟩ := int_rep hs2
 subst h10
 replace hu0 : @LE.le Int _ 0 ui := hu0
 replace hu1 : @LE.le Int _ ui 18446744073709551615 := hu1
 replace hbig : ¬ @LT.lt Int _ ui 100 := hbig
 obtain ⟨u, rfl⟩ : ∃ u : Nat, ui = u := ⟨ui.toNat, (Int.toNat_of_nonneg hu0).symm⟩
 have hu64 : u < 18446744073709551616 := by omega
 have hu : 100 ≤ u := by omega
 have hnd20 := decDigits_le u hu64
 rw [Lib.decDigits_length] at hnd20
 have hcell : G.w.cell? ⟨ρ.g 17, Lib.l10 (Lib.bitLen u), none⟩ = some (.int .u64 ((10 ^ Lib.l10 (Lib.bitLen u) : Nat) : Int)) := by
  have h1 := (H.glob (ρ.g 17) _ _ (by rw [hg]; exact hgl)).sat β
  unfold sat at h1
  obtain ⟨b, o, cells, e, hc, hr⟩ := h1
  cases e
  unfold Rep at hr
  obtain ⟨_, hcl, hx⟩ := hr
  have hq : Lib.l10 (Lib.bitLen u) < 20 := by have := (Lib.numDigits_eq u (by omega) hu64).2; omega
  have hql : Lib.l10 (Lib.bitLen u) < Lib.pow10Tab.length := by rw [Lib.pow10Tab_length]; exact hq
  have hat := Lib.pow10Tab_at (Lib.l10 (Lib.bitLen u)) hq
  rw [getD_ok 0 hql] at hat
  have h2 := hx _ _ (List.getElem?_eq_getElem hql)
  rw [hat] at h2
  unfold Rep at h2
  have h3 := congrArg (fun l : List Value => l[0]?) h2.1
  simp only [Ty.size, Nat.mul_one, List.getElem?_take, List.getElem?_drop, Nat.add_zero] at h3
  have h4 := (hc _ _ (by simpa using h3)).2
  rwa [Nat.zero_add] at h4
 have hglt := cell_lt hcell
 have hcz : ((G.w.alloc (.cells Lib.zeros24 (ρ.t 171))).cell? ⟨ρ.g 17, Lib.l10 (Lib.bitLen u), none⟩) = _ := (cell_alloc_lt _ _ _ _ hglt).trans hcell
 clear hcell hglt hgl
 have mixed := L.mixed
 have t5 := L.t5; have a5 := L.a5; have z5 := L.z5; have v5 := L.v5
 have t37 := L.t37; have u37 := run_underlying L.t37; have a37 := L.a37; have z37 := L.z37; have v37 := L.v37
 have t53 := L.t53; have a53 := L.a53; have z53 := L.z53; have v53 := L.v53
 have t3 := L.t3; have a3 := L.a3; have z3 := L.z3; have v3 := L.v3
 have t4 := L.t4; have a4 := L.a4; have z4 := L.z4; have v4 := L.v4
 have t9 := L.t9; have a9 := L.a9; have z9 := L.z9; have v9 := L.v9
 have t171 := L.t171; have a171 := L.a171; have z171 := L.z171; have v171 := L.v171
 have t0 := L.t0; have a0 := L.a0; have z0 := L.z0; have v0 := L.v0
 have t173 := L.t173; have a173 := L.a173; have z173 := L.z173; have v173 := L.v173
 have e284 : ∀ args w, (callFunc (ρ.f 284) args).run P w = .ok (.enter (ρ.f 284) args) w := enters_of L.f284 (by kernel_rfl) rfl
 have e285 : ∀ args w, (callFunc (ρ.f 285) args).run P w = .ok (.enter (ρ.f 285) args) w := enters_of L.f285 (by kernel_rfl) rfl
 have hal : P.arrayLen (ρ.t 171) = 24 := by simp [Program.arrayLen, L.t171]
 have hsl : ∀ W, (Instr.sliceAt (ρ.t 171) (.pointer (some ⟨G.w.heap.size, 0, none⟩)) none (some (.int .i64 (Lib.nDigits u : Int))) none).run P W = .ok (.slice (some ⟨G.w.heap.size, 0, none⟩) (Lib.nDigits u) 24) W := fun W => by
  rw [run_sliceAt_array_h W (ρ.t 171) ⟨G.w.heap.size, 0, none⟩ (by simp [Program.arrayLen, Program.elem, L.t171]) .i64 (Lib.nDigits u : Int) (by omega) (by rw [hal]; omega)]
  go_simp
 have hH0 := Lib.holds_zero0 G.w (ρ.t 171) (Lib.nDigits u) (by omega)
 have hfmt := Any.internal_strconv_formatBase10 { L with } G.w.heap.size 0 24 u (Array.replicate (Lib.nDigits u) 0) (G.w.alloc (.cells Lib.zeros24 (ρ.t 171))) hH0 (by rw [Array.size_replicate]; exact Lib.lt_pow_nDigits u) hu64 (by rw [Array.size_replicate]; omega)
 rw [Array.size_replicate] at hfmt
 have HH0 := Lib.hid hH0
 have iu : (100 : Int) ≤ (u : Int) := by omega
 clear hH0 hal hbig hl1 hl2 hl3 hargs hs1 hs2
 have HH := Hd.mk H
 have HS := Hd.mk hs
 clear H hs
 go_enter L.f288, Body.n288_ntmps ρ
 go_wp2_with (first
  | (go_at_fn (ρ.f 284); refine (numDigits_calls { L with } u (by omega) hu64 _ hcz).mono ?_; rintro e w' ⟨rfl, rfl⟩))
 go_at_fn (ρ.f 285)
 refine hfmt.mono ?_
 rintro e w' ⟨rfl, k, v', dk, rfl, hF⟩
 have hdl : (Lib.decDigits u).length = Lib.nDigits u := Lib.decDigits_length u
 have hcells : ∀ j, j < Lib.nDigits u → ((putRow (fun (b : UInt8) => Value.int .u8 (b.toNat : Int)) (G.w.alloc (.cells Lib.zeros24 (ρ.t 171))) G.w.heap.size 0 dk).drewN k).cell? ⟨G.w.heap.size, j, none⟩ = some (Value.int .u8 (((Lib.decDigits u).getD j 0).toNat : Int)) := by
  intro j hj
  rw [getD_ok 0 (by omega), Lib.row_is_numeral hF j (by omega), World.cell?_drewN]
  have := cell?_putRow (fun (b : UInt8) => Value.int .u8 (b.toNat : Int)) _ G.w.heap.size 0 _ dk HH0.out (by rw [hF.size, Array.size_replicate]) j (by rw [hF.size]; exact hj)
  rwa [Nat.zero_add] at this
 obtain ⟨os, eo⟩ := Lib.fin_at G.w (.cells Lib.zeros24 (ρ.t 171)) dk k 0
 have hsz2 : G.w.heap.size < ((putRow (fun (b : UInt8) => Value.int .u8 (b.toNat : Int)) (G.w.alloc (.cells Lib.zeros24 (ρ.t 171))) G.w.heap.size 0 dk).drewN k).heap.size := by
  have h0 := Lib.nDigits_big (show ¬ u < 10 by omega)
  have := cell_lt (hcells 0 (by omega))
  exact this
 have hold : ∀ b, b < G.w.heap.size → ((putRow (fun (b : UInt8) => Value.int .u8 (b.toNat : Int)) (G.w.alloc (.cells Lib.zeros24 (ρ.t 171))) G.w.heap.size 0 dk).drewN k).heap[b]? = G.w.heap[b]? := fun b hb => by rw [eo]; exact Lib.heap_grow_old _ _ _ _ hb
 have hmisc : ((putRow (fun (b : UInt8) => Value.int .u8 (b.toNat : Int)) (G.w.alloc (.cells Lib.zeros24 (ρ.t 171))) G.w.heap.size 0 dk).drewN k).os = G.w.os ∧ ((putRow (fun (b : UInt8) => Value.int .u8 (b.toNat : Int)) (G.w.alloc (.cells Lib.zeros24 (ρ.t 171))) G.w.heap.size 0 dk).drewN k).tape = G.w.tape ∧ ((putRow (fun (b : UInt8) => Value.int .u8 (b.toNat : Int)) (G.w.alloc (.cells Lib.zeros24 (ρ.t 171))) G.w.heap.size 0 dk).drewN k).output = G.w.output ∧ G.w.drawn ≤ ((putRow (fun (b : UInt8) => Value.int .u8 (b.toNat : Int)) (G.w.alloc (.cells Lib.zeros24 (ρ.t 171))) G.w.heap.size 0 dk).drewN k).drawn := by rw [eo]; exact ⟨rfl, rfl, rfl, Nat.le_add_right _ _⟩
 generalize (putRow (fun (b : UInt8) => Value.int .u8 (b.toNat : Int)) (G.w.alloc (.cells Lib.zeros24 (ρ.t 171))) G.w.heap.size 0 dk).drewN k = W2 at hcells hsz2 hold hmisc ⊢
 clear eo HH0 hfmt
 obtain ⟨m1, m2, m3, m4⟩ := hmisc
 have H := HH.out
 have hs := HS.out
 clear HH HS
 -- the new block is nobody's, and nobody will write it any more
 let G2 : GW := { w := W2, im := fun b o => G.im b o ∨ b = G.w.heap.size, imo := G.imo, nz := G.nz }
 have hst : Step (fun _ _ => False) (fun _ => False) G G2 := {
  os := m1
  tape := m2
  output := m3
  size := Nat.le_of_lt hsz2
  cell := fun b o hb _ => by
   have e := hold b hb
   exact ⟨by show W2.cell? _ = _; unfold World.cell?; rw [e], by show W2.frozen? _ = _; unfold World.frozen?; rw [e]⟩
  blk := fun b hb _ _ => hold b hb
  obj := fun b es c _ he => (hold b (Array.getElem?_eq_some_iff.1 he).1).trans he
  le := ⟨fun b o hi => ⟨.inl hi, by show W2.cell? _ = _; unfold World.cell?; rw [hold b (H.heap.old b o hi)]⟩, fun b hi => ⟨hi, by
   obtain ⟨ob, he, _⟩ := H.heap.oldo b hi
   exact hold b (Array.getElem?_eq_some_iff.1 he).1⟩⟩
  new := fun b o hi => hi.elim .inl (fun e => .inr (.inr (by rw [e]; exact Nat.le_refl _)))
  newo := fun b hi => .inl hi
  drawn := .inl m4
  nz := rfl }
 have H2 : HInv C _ β G2 := H.same hst (fun b o hi => hi.elim (fun h => Nat.lt_trans (H.heap.old b o h) hsz2) (fun e => by rw [e]; exact hsz2)) (fun b hi => by
  obtain ⟨ob, he, he'⟩ := H.heap.oldo b hi
  exact ⟨ob, (hold b (Array.getElem?_eq_some_iff.1 he).1).trans he, he'⟩)
 have hs2 := sat.mono _ hs (Asg.le_refl β) hst.le
 have hdg : (digU u).length = Lib.nDigits u := by unfold digU; rw [List.length_map, hdl]
 have hrep : RepV (.sl (.int .u8)) (digU u) G2 (.slice (some ⟨G.w.heap.size, 0, none⟩) (Lib.nDigits u) 24) := by
  refine .of_one rfl ⟨some ⟨G.w.heap.size, 0, none⟩, 24, by rw [hdg], by rw [hdg]; omega, by unfold maxLen; omega, fun h => (by cases h), fun a ha => ?_⟩
  cases ha
  refine ⟨fun _ => rfl, fun i x hx => ?_⟩
  have hil := (List.getElem?_eq_some_iff.1 hx).1
  rw [hdg] at hil
  unfold digU at hx
  rw [List.getElem?_map, Option.map_eq_some_iff] at hx
  obtain ⟨b, hb, rfl⟩ := hx
  refine ⟨[.int .u8 (b.toNat : Int)], fun j v hv => ?_, ?_⟩
  · cases j with
    | zero =>
     simp only [List.getElem?_cons_zero, Option.some.injEq] at hv
     subst hv
     refine ⟨.inr rfl, ?_⟩
     have := hcells i hil
     rw [List.getD_eq_getElem?_getD, hb] at this
     show W2.cell? ⟨G.w.heap.size, 0 + i * 1 + 0, none⟩ = _
     rw [Nat.zero_add, Nat.mul_one, Nat.add_zero]
     exact this
    | succ j => simp at hv
  · unfold Rep
    refine ⟨rfl, has_iff.2 ?_⟩
    have hb8 := b.toNat_lt
    simp only [lo, hi]
    omega
 obtain ⟨vr, β3, G3, hrun, H3, lb, lg, hv3⟩ := app_spare (P := P) (nx := 1) (h := 0) (ty := ρ.t 37) hE hT H2 (canon_out _ _ (Nat.le_refl _)) rfl hs2 hrep (by rw [hdg]; omega)
 have hrun : (Builtin.append_ #[ρ.t 37, ρ.t 37] (ρ.t 37) #[sv, .slice (some ⟨G.w.heap.size, 0, none⟩) (Lib.nDigits u) 24]).run P W2 = .ok vr G3.w := hrun
 have HH := Hd.mk H3
 have HS := Hd.mk hv3
 have HL := Hd.mk (GW.le_trans hst.le lg)
 clear H H2 H3 hs hs2 hv3 hst lg
 go_wp2_with (at_builtin; refine Lib.wpList_append_run_sl _ rfl _ _ (ρ.t 37) rfl _ _ rfl rfl hrun ?_)
 go_wp2
 go_ret
 refine ⟨⟨_, β3, G3, [.sl 1 (.int .u8) (xs ++ digU u)], [vr], 2, (xs ++ digU u, ()), [1], [], 2, (xs, (u : Int), (10 : Int), ()), [], [], 2, rfl, HH.out, lb, HL.out, rfl, ?_, fun k hk => ?_, ?_, ?_, rfl, ?_, rfl, rfl⟩⟩
 · show satT (.cons _ .nil) _ _ _
   unfold satT
   exact ⟨vr, [], rfl, HS.out, by unfold satT; rfl⟩
 · have h1 : ¬ k = 1 := by omega
   have h0 : ¬ k = 0 := by omega
   simp only [hset, h1, h0, if_false]
   exact canon_out _ _ (by show 1 ≤ k; omega)
 · simp [listA, fromA, hset, castDat_self]
 · simp only [bk, bkEnd, backS, endAP, fromA, toDat_dat]
   rfl
 · rfl
end Go.Gv

/- The library's decimal numerals and strings.Join, as contracts. -/
namespace Go.Gv
open Go Go.RowKit Go.Proofs Go.Shelf Go.Sort
theorem below_grow {w : World} {k : Nat} {os : Array Obj} : Below w.heap.size w (grow (w.drewN k) os) :=
 ⟨rfl, rfl, rfl, by simp [grow, World.drewN], fun b hb => by
  show (w.heap ++ os)[b]? = _
  rw [Array.getElem?_append_left hb]⟩
theorem itoa_ok {P : Program} {gl : Glob} {f : FuncId} {g : Nat} {name : String} (hf : ∃ fn, P.funcs[f]? = some fn ∧ fn.body.isNone = false ∧ (fn.name == "runtime.NumGoroutine") = false)
    (hgl : gl g = some ⟨.arr 20 (.int .u64), Lib.pow10Tab⟩) (hgn : P.globalNamed name = some g)
    (h : ∀ (n : Int), -9223372036854775808 ≤ n → n ≤ 9223372036854775807 → ∀ w, Lib.TabIs P w name .u64 Lib.pow10Tab → Calls P f #[.int .i64 n] w fun e w' => e = .returned (.string ⟨(Lib.itoa n).toArray⟩) ∧ ∃ k os, w' = grow (w.drewN k) os) :
    SpecOK P gl f { ins := .cons (.d (.int .i64)) .nil, pre := fun _ => True, alts := [{ outs := .cons (.d .str) .nil, res := fun x => (Lib.itoa x.1, ()) }] } :=
 lib_ok hf rfl false fun x _ C β G args hg H ha => by
  obtain ⟨n, ⟨⟩⟩ := x
  unfold intoA satT at ha
  obtain ⟨v, l, rfl, hs, hl⟩ := ha
  unfold intoA satT at hl
  subst hl
  unfold intoA at hs
  obtain ⟨rfl, hh⟩ := int_sat hs
  have h2 := has_iff.1 hh
  simp only [lo, hi] at h2
  have ht := tab_of_glob (P := P) (zs := Lib.pow10Tab) (by decide) (H.glob g _ _ (by rw [hg]; exact hgl)) hgn
  refine (h n h2.1 h2.2 G.w ht).mono fun e w' hr => ?_
  obtain ⟨rfl, k, os, rfl⟩ := hr
  refine ⟨_, rfl, below_grow, fun _ => Nat.le_add_right _ _, .of_one rfl ⟨rfl, ?_⟩⟩
  have := Lib.itoa_length_le n h2.1 h2.2
  show (Lib.itoa n).length ≤ maxLen
  unfold maxLen; omega
theorem strs_of {G : GW} {xs : List (List UInt8)} {v : Value} (h : RepV (.sl .str) xs G v) : (xs = [] ∧ ∃ c, v = .slice none 0 c) ∨ ∃ b o c sp, v = .slice (some ⟨b, o, sp⟩) xs.length c ∧ xs.length ≤ c ∧ (0 < c → sp = none) ∧ ∀ (j : Nat) x, xs[j]? = some x → G.w.cell? ⟨b, o + j, none⟩ = some (strV x) := by
 obtain ⟨base, cap, e, h1, h2, h3, h4⟩ := h.to_one rfl
 simp only [List.cons.injEq, and_true] at e
 subst e
 cases base with
 | none =>
  have := h3 rfl
  have hx : xs = [] := List.eq_nil_of_length_eq_zero (by omega)
  subst hx
  exact .inl ⟨rfl, cap, rfl⟩
 | some a =>
  obtain ⟨b, o, sp⟩ := a
  refine .inr ⟨b, o, cap, sp, rfl, h1, (h4 _ rfl).1, fun j x hx => ?_⟩
  obtain ⟨cells, hc, hr⟩ := (h4 _ rfl).2 j x hx
  unfold Rep at hr
  have := (hc 0 (strV x) (by rw [hr.1]; rfl)).2
  simpa [Ty.size] using this
theorem join_ok {P : Program} {gl : Glob} {ρ : Ren} (L : Lays.n156 P ρ) (X : Builder.Extra P ρ) (hf : ∃ fn, P.funcs[ρ.f 156]? = some fn ∧ fn.body.isNone = false ∧ (fn.name == "runtime.NumGoroutine") = false) :
    SpecOK P gl (ρ.f 156) { ins := .cons (.d (.sl .str)) (.cons (.d .str) .nil), pre := fun x => (Lib.join x.1 x.2.1).length ≤ 1000000000 ∧ List.length x.1 ≤ 1000000000, alts := [{ outs := .cons (.d .str) .nil, res := fun x => (Lib.join x.1 x.2.1, ()) }], noisy := true } :=
 lib_ok hf rfl true fun x hpre C β G args hg H ha => by
  obtain ⟨xs, sep, ⟨⟩⟩ := x
  unfold intoA satT at ha
  obtain ⟨v, l, rfl, hs, hl⟩ := ha
  unfold intoA satT at hl
  obtain ⟨u, l, rfl, hs2, hl⟩ := hl
  unfold intoA satT at hl
  subst hl
  unfold intoA at hs hs2
  unfold sat at hs
  obtain ⟨rfl, _⟩ := str_sat hs2
  have hlen : (Lib.join xs sep).length ≤ 1000000000 := hpre.1
  have hn : List.length xs ≤ 1000000000 := hpre.2
  have fin : ∀ w', Below G.w.heap.size G.w w' → ∃ v, Ending.returned (.string ⟨(Lib.join xs sep).toArray⟩) = .returned v ∧ Below G.w.heap.size G.w w' ∧ (true = false → G.w.drawn ≤ w'.drawn) ∧ RepV .str (Lib.join xs sep) { G with w := w' } v := fun w' hb =>
   ⟨_, rfl, hb, fun h => Bool.noConfusion h, .of_one rfl ⟨rfl, by unfold maxLen; omega⟩⟩
  rcases strs_of hs with ⟨rfl, c, rfl⟩ | ⟨b, o, c, sp, rfl, h1, h2, h3⟩
  · refine (Any.strings_Join_none L X none c ⟨⟨sep⟩⟩ G.w).mono fun e w' hr => ?_
    obtain ⟨rfl, rfl⟩ := hr
    exact fin _ (Below.refl _ _)
  · by_cases hx : xs = []
    · subst hx
      refine (Any.strings_Join_none L X (some ⟨b, o, sp⟩) c ⟨⟨sep⟩⟩ G.w).mono fun e w' hr => ?_
      obtain ⟨rfl, rfl⟩ := hr
      exact fin _ (Below.refl _ _)
    · have hpos : 0 < xs.length := List.length_pos_iff.2 hx
      have h1' : xs.length ≤ c := h1
      have hsp : sp = none := h2 (Nat.lt_of_lt_of_le hpos h1')
      subst hsp
      have hb : b < G.w.heap.size := by
       have := h3 0 _ (List.getElem?_eq_getElem hpos)
       exact cell_lt this
      have hm : ((xs.map fun x => (⟨⟨x⟩⟩ : ByteArray)).map (·.data.toList)) = xs := by
       rw [List.map_map]
       exact List.map_id _
      have := Any.strings_Join L X b o c (xs.map fun x => (⟨⟨x⟩⟩ : ByteArray)) ⟨⟨sep⟩⟩ G.w (fun j x hj => by
       rw [List.getElem?_map, Option.map_eq_some_iff] at hj
       obtain ⟨y, hy, rfl⟩ := hj
       exact h3 j y hy) hb (by rw [List.length_map]; omega) (by rw [List.length_map]; exact h1) (by rw [hm]; show (Lib.join xs sep).length ≤ _; omega)
      rw [List.length_map, hm] at this
      refine this.mono fun e w' hr => ?_
      obtain ⟨rfl, hb'⟩ := hr
      exact fin w' hb'
end Go.Gv

/- What a sort in place changes in the world; quiet comparisons. -/
namespace Go.Gv
open Go Go.RowKit Go.Proofs Go.Shelf Go.Sort
section
variable {α : Type} [Inhabited α] {enc : α → List Value} {k : Nat} {w : World} {blk off m : Nat} {d dk : Array α} {os : Array Obj}
theorem flat_size : (flatK enc k d).size = d.size * k := by simp [flatK]
theorem sortW_heap (b : Nat) (hb : b < w.heap.size) (hne : b ≠ blk) : (sortWorldK enc k w blk off m dk os).heap[b]? = w.heap[b]? := by
 unfold sortWorldK putRowK putRow mapBlock
 rw [heap_grow_old _ _ (by simpa using hb)]
 show (w.heap.modify blk _)[b]? = _
 rw [Array.getElem?_modify, if_neg (fun e => hne e.symm)]
theorem sortW_size : w.heap.size ≤ (sortWorldK enc k w blk off m dk os).heap.size := by
 unfold sortWorldK putRowK putRow mapBlock grow Go.Sort.ahead
 simp
theorem sortW_cell (b o : Nat) (hb : b < w.heap.size) (hne : b ≠ blk ∨ o < off ∨ off + dk.size * k ≤ o) : (sortWorldK enc k w blk off m dk os).cell? ⟨b, o, none⟩ = w.cell? ⟨b, o, none⟩ := by
 unfold sortWorldK putRowK
 rw [cell?_grow _ _ _ (by show b < (mapBlock _ _ _).heap.size; unfold mapBlock Go.Sort.ahead; simpa using hb)]
 rw [cell?_putRow_other _ _ _ _ _ _ (by rw [flat_size]; exact hne)]
 rfl
theorem sortW_frz (b o : Nat) (hb : b < w.heap.size) : (sortWorldK enc k w blk off m dk os).frozen? ⟨b, o, none⟩ = w.frozen? ⟨b, o, none⟩ := by
 unfold sortWorldK putRowK
 rw [frozen?_grow _ _ _ (by show b < (mapBlock _ _ _).heap.size; unfold mapBlock Go.Sort.ahead; simpa using hb)]
 unfold putRow
 rw [frozen?_mapBlock]
 rfl
theorem sortW_step {hp : Nat → HObj} {β : Asg} {G : GW} (H : HeapOK hp β G) {h : Nat} {v : Value} (hv : β h = some v) (hblk : blk < G.w.heap.size) (hpos : 0 < dk.size * k) (hcell : ∃ u, G.w.cell? ⟨blk, off, none⟩ = some u)
    (hin : ∀ i, off ≤ i → i < off + dk.size * k → fpc (hp h) v blk i) (Fo : Nat → Prop) : Step (fpc (hp h) v) Fo G { G with w := sortWorldK enc k G.w blk off m dk os } := by
 have hob : ∀ ob, G.w.heap[blk]? = some ob → ob.isCells = true := fun ob e => by
  obtain ⟨u, hu⟩ := hcell
  simp only [World.cell?, e] at hu
  cases ob <;> first | rfl | cases hu
 exact {
  os := rfl
  tape := rfl
  output := rfl
  size := sortW_size
  cell := fun b o hb hn => ⟨sortW_cell b o hb (by
   by_cases e : b = blk
   · refine .inr (Classical.byContradiction fun hc => hn ?_)
     subst e
     exact hin o (by omega) (by omega)
   · exact .inl e), sortW_frz b o hb⟩
  blk := fun b hb hn _ => sortW_heap b hb (fun e => hn off (by subst e; exact hin off (Nat.le_refl _) (by omega)))
  obj := fun b es c _ he => by
   refine (sortW_heap b (Array.getElem?_eq_some_iff.1 he).1 (fun e => ?_)).trans he
   subst e
   have := hob _ he
   cases this
  le := ⟨fun b o hi => ⟨hi, sortW_cell b o (H.old b o hi) (by
   by_cases e : b = blk
   · refine .inr (Classical.byContradiction fun hc => ?_)
     subst e
     exact (H.im h v hv b o (hin o (by omega) (by omega))).1 hi
   · exact .inl e)⟩, fun b hi => ⟨hi, by
   obtain ⟨ob, e, e'⟩ := H.oldo b hi
   refine sortW_heap b (Array.getElem?_eq_some_iff.1 e).1 (fun eb => ?_)
   subst eb
   have := hob _ e
   rcases e' with ⟨es, c, rfl⟩ | rfl <;> cases this⟩⟩
  new := fun _ _ hi => .inl hi
  newo := fun _ hi => .inl hi
  drawn := .inl (Nat.le_add_right _ _)
  nz := rfl }
end
theorem grow_of_step {G G' : GW} (h : Step (fun _ _ => False) (fun _ => False) G G') (hz : ¬ G.nz) : ∃ q os', G'.w = grow (G.w.drewN q) os' := by
 have hd := h.drawn.resolve_right hz
 refine ⟨G'.w.drawn - G.w.drawn, G'.w.heap.extract G.w.heap.size, ?_⟩
 have hh : G.w.heap ++ G'.w.heap.extract G.w.heap.size = G'.w.heap := by
  apply Array.ext_getElem?
  intro i
  by_cases hi : i < G.w.heap.size
  · rw [Array.getElem?_append_left hi]
    exact (h.blk i hi (fun _ h => h) (fun h => h)).symm
  · rw [Array.getElem?_append_right (by omega), Array.getElem?_extract]
    have hs := h.size
    by_cases hj : i < G'.w.heap.size
    · rw [if_pos (by omega)]
      congr 1; omega
    · rw [if_neg (by omega), Array.getElem?_eq_none (by omega)]
 obtain ⟨⟨h1, t1, d1, o1, u1⟩, i1, io1, n1⟩ := G
 obtain ⟨⟨h2, t2, d2, o2, u2⟩, i2, io2, n2⟩ := G'
 have e1 := h.os
 have e2 := h.tape
 have e3 := h.output
 dsimp only at e1 e2 e3 hh hd
 subst e1; subst e2; subst e3
 unfold grow World.drewN
 dsimp only
 rw [hh, Nat.add_sub_cancel' hd]
theorem enters_ok {P : Program} {f : FuncId} (h : ∃ fn, P.funcs[f]? = some fn ∧ fn.body.isNone = false ∧ (fn.name == "runtime.NumGoroutine") = false) : ∀ args w, (callFunc f args).run P w = .ok (.enter f args) w := by
 obtain ⟨fn, h1, h2, h3⟩ := h
 cases hb : fn.body with
 | none => rw [hb] at h2; cases h2
 | some c => exact enters_of h1 h3 hb
theorem quiet2 {P : Program} {gl : Glob} {g : FuncId} {t : Ty} {cpre : SDat (.cons (.d t) (.cons (.d t) .nil)) → Prop} {cf : Dat t → Dat t → Int}
    (hcmp : SpecOK P gl g { ins := .cons (.d t) (.cons (.d t) .nil), pre := cpre, alts := [{ outs := .cons (.d (.int .i64)) .nil, res := fun x => (cf x.1 x.2.1, ()) }] })
    {x y : Dat t} (hq : cpre (x, y, ())) {W : World} {im : Nat → Nat → Prop} {imo : Nat → Prop} (hold : ∀ b o, im b o → b < W.heap.size) (holdo : ∀ b, imo b → ∃ o, W.heap[b]? = some o ∧ ImObj o) (hgl : ∀ g t x, gl g = some ⟨t, x⟩ → globOK t x ⟨W, im, imo, False⟩ g)
    {u v : Value} (hu : RepV t x ⟨W, im, imo, False⟩ u) (hv : RepV t y ⟨W, im, imo, False⟩ v) : Calls P g #[u, v] W fun e w' => e = .returned (.int .i64 (cf x y)) ∧ ∃ q os', w' = grow (W.drewN q) os' := by
 let G : GW := ⟨W, im, imo, False⟩
 have H : HInv { G0 := G, F0 := fun _ _ => False, Fo0 := fun _ => False, glob := gl, N := 0 } (fun _ => .none) (fun _ => none) G :=
  ⟨⟨fun _ _ => rfl, fun _ h => (h rfl).elim, fun _ _ h => (by cases h), fun _ _ h => (by cases h), fun _ _ _ _ _ h => (by cases h), fun _ _ _ _ _ h => (by cases h), hold, holdo⟩, Step.refl _ _ _, fun _ _ h => (by cases h), fun _ _ h => (by cases h), hgl⟩
 have hc : callA { ins := .cons (.d t) (.cons (.d t) .nil), pre := cpre, alts := [{ outs := .cons (.d (.int .i64)) .nil, res := fun x => (cf x.1 x.2.1, ()) }] } (fun _ => HObj.none) 0 [.dat t x, .dat t y] = some (cpre (x, y, ()), [wayA false (ins := .cons (.d t) (.cons (.d t) .nil)) { outs := .cons (.d (.int .i64)) .nil, res := fun x => (cf x.1 x.2.1, ()) } (0 = 0) (x, y, ()) [] [] 0 0]) := by
  simp [callA, frzArgs, listA, fromA, toDat_dat, nodupN, preA, waysA, dropW, hasSelf]
 obtain ⟨i, Wy, hi, _, huniq, hcalls⟩ := callA_run hcmp hc hq H (fun _ _ => rfl) rfl (fun h => by cases h) (by
  unfold listA listA listA satT
  refine ⟨u, [v], rfl, by unfold sat; exact hu, ?_⟩
  unfold satT
  refine ⟨v, [], rfl, by unfold sat; exact hv, by unfold satT; rfl⟩)
 have hW := huniq 0 _ rfl (fun h => (h rfl).elim)
 refine hcalls.mono fun e w' hr => ?_
 cases e with
 | panicked _ => exact hr.elim
 | outgrown => exact hr.elim
 | returned r =>
  obtain ⟨β', G', rfl, H', _, _, hs⟩ := hr
  rw [← hW] at hs
  have hs' : sat (.dat (.int .i64) (cf x y)) β' G' r := hs
  obtain ⟨rfl, _⟩ := int_sat hs'
  exact ⟨rfl, grow_of_step H'.step (fun h => h)⟩
end Go.Gv

/- math/bits.Len, as a contract. -/
namespace Go.Gv
open Go Go.RowKit Go.Proofs Go.Shelf Go.Sort
theorem bitsLen_ok {P : Program} {ρ : Ren} {gl : Glob} (L : Lays.n125 P ρ) {fn : Func} {n : Nat} (hf : FnOK P (ρ.f 125) fn n) :
    SpecOK P gl (ρ.f 125) { ins := .cons (.d (.int .u64)) .nil, pre := fun _ => True, alts := [{ outs := .cons (.d (.int .i64)) .nil, res := fun x => ((Lib.bitLen (Int.toNat x.1) : Int), ()) }] } :=
 pure_ok hf rfl rfl fun x _ β G args _ hargs => by
  obtain ⟨m, ⟨⟩⟩ := x
  unfold intoA satT at hargs
  obtain ⟨v, l, rfl, hv, hl⟩ := hargs
  unfold intoA satT at hl
  subst hl
  unfold intoA at hv
  obtain ⟨rfl, hm⟩ := int_sat hv
  have hm := has_iff.1 hm
  simp only [lo, hi] at hm
  refine (Any.bits_Len L m G.w hm.1 hm.2).mono fun e w' hr => ?_
  obtain ⟨rfl, rfl⟩ := hr
  refine ⟨[_], rfl, rfl, ?_⟩
  unfold intoA satT
  refine ⟨_, [], rfl, ?_, by unfold intoA satT; rfl⟩
  unfold intoA
  have h64 := Lib.bitLen_le (Int.toNat m) 64 (Nat.le_refl _) (by have := hm.2; omega)
  exact sat_int (has_iff.2 ⟨by simp only [lo]; omega, by simp only [hi]; omega⟩)
end Go.Gv

/- The library's Sort at elements of one cell, as a contract: a row is sorted in place. -/
namespace Go.Gv
open Go Go.RowKit Go.Proofs Go.Shelf Go.Sort
section
variable {P : Program} {ρ : Ren}
end
section
variable {α : Type} [Inhabited α]
end
end Go.Gv

/- The library's Sort at ints, as a contract: a row is sorted in place. -/
namespace Go.Gv
open Go Go.RowKit Go.Proofs Go.Shelf Go.Sort
section
variable {P : Program} {ρ : Ren}
end
end Go.Gv

/- The library's Compact at ints, as a contract: a row is taken, and comes back shorter. -/
namespace Go.Gv
open Go Go.RowKit Go.Proofs Go.Shelf Go.Sort
end Go.Gv

/- The library's maps.Keys and Sorted over it, at int keys, as contracts. -/
namespace Go.Gv
open Go Go.RowKit Go.Proofs Go.Shelf Go.Sort
section
variable {P : Program} {ρ σ : Ren} {gl : Glob}
def rdB {H : Type} (v : Value) : Option (DataW H × List MemPlace) := match v with
 | .bool x => some (.lit (.bool x), [])
 | _ => none
open Go.WideElems in
end
end Go.Gv

/- The library's SortFunc at structs, as a contract: a row is sorted in place. -/
namespace Go.Gv
open Go Go.RowKit Go.Proofs Go.Shelf Go.Sort
theorem pdqF_ok {P : Program} {ρ : Ren} {gl : Glob} (L : SlLaysF0.n14 P ρ) {t : Ty} (hag : t.agg = true) (hts : 0 < t.size) (aE : ∀ w, (isAgg (ρ.t 24)).run P w = .ok true w) (zE : ∀ w, (Go.sizeOf (ρ.t 24)).run P w = .ok t.size w)
    (hf : ∃ fn, P.funcs[ρ.f 14]? = some fn ∧ fn.body.isNone = false ∧ (fn.name == "runtime.NumGoroutine") = false) {g : FuncId} {cpre : SDat (.cons (.d t) (.cons (.d t) .nil)) → Prop} {cf : Dat t → Dat t → Int}
    (hcmp : SpecOK P gl g { ins := .cons (.d t) (.cons (.d t) .nil), pre := cpre, alts := [{ outs := .cons (.d (.int .i64)) .nil, res := fun x => (cf x.1 x.2.1, ()) }] })
    (Q : Dat t → Prop) (hQ : ∀ x y, Q x → Q y → cpre (x, y, ())) (h1 : ∀ x, Q x → ¬ cf x x < 0) (h2 : ∀ x y z, Q x → Q y → Q z → cf x y < 0 → cf y z < 0 → cf x z < 0) (h3 : ∀ x y z, Q x → Q y → Q z → ¬ cf x y < 0 → ¬ cf y z < 0 → ¬ cf x z < 0)
    (pre : List (Dat t) → Prop) (res : List (Dat t) → List (Dat t)) (hpQ : ∀ xs, pre xs → ∀ x ∈ xs, Q x) (hmany : ∀ xs, pre xs → List.length xs < 4611686018427387904) (huniq : ∀ xs ys, pre xs → ys.Perm xs → ys.Pairwise (fun a b => ¬ cf b a < 0) → ys = res xs) :
    SpecOK P gl (ρ.f 14) { ins := .cons (.row t) (.cons (.d (.int .i64)) (.cons (.d (.int .i64)) (.cons (.d (.int .i64)) (.cons (.clos g .nil) .nil)))), pre := fun x => pre x.1 ∧ x.2.1 = 0 ∧ x.2.2.1 = (List.length x.1 : Int) ∧ 0 ≤ x.2.2.2.1 ∧ x.2.2.2.1 ≤ 1000000, alts := [{ outs := .nil, res := fun _ => (), upd := fun x => (res x.1, x.2.1, x.2.2.1, x.2.2.2.1, (), ()) }] } := by
 refine ⟨hf, fun x hpre => ⟨_, rfl, fun C β G args hg hz H hargs => ?_⟩⟩
 obtain ⟨xs, na, nb, nl, ⟨⟩, ⟨⟩⟩ := x
 have e1 : na = (0 : Int) := hpre.2.1
 have e2 : nb = (List.length xs : Int) := hpre.2.2.1
 have l1 : (0 : Int) ≤ nl := hpre.2.2.2.1
 have l2 : @LE.le Int _ nl 1000000 := hpre.2.2.2.2
 replace hpre : pre xs := hpre.1
 subst e1; subst e2
 have key : ∃ v, args = [v, .int .i64 0, .int .i64 (List.length xs : Int), .int .i64 nl, .func (.func g) #[] #[]] ∧ β 0 = some v := by
  unfold intoA satT at hargs
  obtain ⟨v, l, rfl, hv, hl⟩ := hargs
  unfold intoA satT at hl
  obtain ⟨a1, l, rfl, ha1, hl⟩ := hl
  unfold intoA satT at hl
  obtain ⟨a2, l, rfl, ha2, hl⟩ := hl
  unfold intoA satT at hl
  obtain ⟨a3, l, rfl, ha3, hl⟩ := hl
  unfold intoA satT at hl
  obtain ⟨u, l, rfl, hu, hl⟩ := hl
  unfold intoA satT at hl
  subst hl
  unfold intoA at hv hu ha1 ha2 ha3
  obtain ⟨rfl, _⟩ := int_sat ha1
  obtain ⟨rfl, _⟩ := int_sat ha2
  obtain ⟨rfl, _⟩ := int_sat ha3
  unfold sat at hv hu
  obtain ⟨l, rfl, hl⟩ := hu
  unfold intoA satT at hl
  subst hl
  exact ⟨v, rfl, hv.1⟩
 obtain ⟨v, rfl, hbv⟩ := key
 obtain ⟨v', hv', hsat⟩ := H.heap.sat 0 (by show (HObj.row t xs) ≠ _; simp)
 rw [hbv] at hv'; cases hv'
 have hsat : satH (.row t xs) v β G := hsat
 -- how the function comes back
 have fin : ∀ (ys : List (Dat t)), ys = res xs → ∀ G' : GW, HInv C (hset (canon (.cons (.row t) (.cons (.d (.int .i64)) (.cons (.d (.int .i64)) (.cons (.d (.int .i64)) (.cons (.clos g .nil) .nil))))) (xs, (0 : Int), (List.length xs : Int), nl, (), ())) [(0, .row t ys)]) β G' → G.le G' →
     RetOK C false (.cons (.row t) (.cons (.d (.int .i64)) (.cons (.d (.int .i64)) (.cons (.d (.int .i64)) (.cons (.clos g .nil) .nil))))) { outs := .nil, res := fun _ => (), upd := fun x => (res x.1, x.2.1, x.2.2.1, x.2.2.2.1, (), ()) } (xs, (0 : Int), (List.length xs : Int), nl, (), ()) β G (.tuple #[]) G'.w := fun ys hys G' H' hle => by
  refine ⟨⟨_, β, G', [], [], 1, (), [], [], 1, (ys, (0 : Int), (List.length xs : Int), nl, (), ()), [0], [], 1, rfl, H', Asg.le_refl β, hle, rfl, ?_, fun n hn => ?_, rfl, ?_, rfl, rfl, ?_, rfl⟩⟩
  · unfold listA satT; rfl
  · have h0 : ¬ n = 0 := by omega
    simp only [hset, h0, if_false]
    exact canon_out _ _ (by show 1 ≤ n; omega)
  · show fromA _ (.cons (.row t) (.cons (.d (.int .i64)) (.cons (.d (.int .i64)) (.cons (.d (.int .i64)) (.cons (.clos g .nil) .nil))))) (.cons (.ref 0) (.cons (.dat (.int .i64) (0 : Int)) (.cons (.dat (.int .i64) (List.length xs : Int)) (.cons (.dat (.int .i64) nl) (.cons (.clos g .nil) .nil))))) 1 = _
    have hb : Nat.beq g g = true := Nat.beq_refl g
    simp only [fromA, hset, if_true, castDat_self, toDat_dat, hb]
    rfl
  · rw [hys]; rfl
 obtain ⟨base, cap, rfl, c1, c2, c3, c4⟩ := hsat
 by_cases hx : xs = []
 · subst hx
   have he : ([] : List (Dat t)) = res [] := huniq [] [] hpre (List.Perm.refl _) List.Pairwise.nil
   refine (AnyF.pdqsortCmpFunc_none L base cap nl (.func (.func g) #[] #[]) G.w).mono fun e w' hr => ?_
   obtain ⟨rfl, rfl⟩ := hr
   refine fin [] he G ?_ G.le_refl
   exact H.write 0 _ (.row t []) hbv (by simp) rfl rfl (Step.refl _ _ G) ⟨base, cap, rfl, c1, c2, c3, c4⟩ (fun b i hf => hf) (fun b hf => hf)
 · have hlen : 0 < xs.length := List.length_pos_iff.2 hx
   obtain ⟨a, rfl⟩ : ∃ a, base = some a := by
    cases base with
    | none => have := c3 rfl; omega
    | some a => exact ⟨a, rfl⟩
   obtain ⟨hsp, hfree, hel⟩ := c4 a rfl
   obtain ⟨blk, off, spot⟩ := a
   have hsp : spot = none := hsp (by omega)
   subst hsp
   dsimp only at hfree hel
   have hcap : xs.length * t.size ≤ cap * t.size := Nat.mul_le_mul_right _ c1
   have hblk : blk < G.w.heap.size := by
    obtain ⟨⟨u, hu⟩, _⟩ := hfree 0 (Nat.mul_pos (by omega) hts)
    exact cell_lt hu
   let α := {p : Dat t × List Value // Q p.1 ∧ Rep t p.1 G p.2}
   have hex : ∀ i : Fin xs.length, ∃ cells : List Value, (∀ j u, cells[j]? = some u → G.w.cell? ⟨blk, off + i.1 * t.size + j, none⟩ = some u) ∧ Rep t xs[i.1] G cells := fun i => hel i.1 _ (List.getElem?_eq_getElem i.2)
   let cells : Fin xs.length → List Value := fun i => Classical.choose (hex i)
   have hcells := fun i => Classical.choose_spec (hex i)
   let d : Array α := Array.ofFn fun i : Fin xs.length => (⟨(xs[i.1], cells i), hpQ xs hpre _ (List.getElem_mem i.2), (hcells i).2⟩ : α)
   letI : Inhabited α := ⟨⟨(xs[0], cells ⟨0, hlen⟩), hpQ xs hpre _ (List.getElem_mem hlen), (hcells ⟨0, hlen⟩).2⟩⟩
   have hd : d.size = xs.length := by simp [d]
   let enc : α → List Value := fun p => p.1.2
   have hk : ∀ x : α, (enc x).length = t.size := fun x => Rep.length t x.2.2
   have hone : ∀ x : α, ∀ v ∈ enc x, v.oneCell' = true := fun x => Rep.one t x.2.2
   have hgets : ∀ i (hi : i < xs.length), d[i]! = ⟨(xs[i], cells ⟨i, hi⟩), hpQ xs hpre _ (List.getElem_mem hi), (hcells ⟨i, hi⟩).2⟩ := fun i hi => by
    rw [getElem!_pos d i (by omega)]
    simp [d]
   have hH : HoldsK enc t.size G.w blk off d := fun j hj => by
    rw [flat_size, hd] at hj
    have hj1 : j / t.size < xs.length := Nat.div_lt_of_lt_mul (by rw [Nat.mul_comm]; exact hj)
    have hj2 : j % t.size < t.size := Nat.mod_lt _ hts
    refine ⟨?_, (hfree j (by omega)).2⟩
    rw [get_flatK enc t.size d j (by rw [hd]; exact hj), hgets _ hj1]
    show _ = some ((cells ⟨j / t.size, hj1⟩)[j % t.size]!)
    have hl : (cells ⟨j / t.size, hj1⟩).length = t.size := Rep.length t (hcells _).2
    have := (hcells ⟨j / t.size, hj1⟩).1 (j % t.size) _ (List.getElem?_eq_getElem (by rw [hl]; exact hj2))
    rw [getElem!_pos _ _ (by rw [hl]; exact hj2), ← this]
    congr 2
    have := Nat.div_add_mod j t.size
    rw [Nat.mul_comm] at this
    dsimp only
    omega
   have hin : ∀ i, off ≤ i → i < off + d.size * t.size → fpc (.row t xs) (.slice (some ⟨blk, off, none⟩) xs.length cap) blk i := fun i hi1 hi2 => ⟨rfl, hi1, by rw [hd] at hi2; dsimp only; omega⟩
   have hcell0 : ∃ u, G.w.cell? ⟨blk, off, none⟩ = some u := (hfree 0 (Nat.mul_pos (by omega) hts)).1
   have hst : ∀ (m : Nat) (dk : Array α) (os : Array Obj), dk.size = d.size → Step (fpc (.row t xs) (.slice (some ⟨blk, off, none⟩) xs.length cap)) (fpo (.row t xs) (.slice (some ⟨blk, off, none⟩) xs.length cap)) G { G with w := sortWorldK enc t.size G.w blk off m dk os } := fun m dk os hdk =>
    sortW_step (h := 0) H.heap hbv hblk (by rw [hdk, hd]; exact Nat.mul_pos hlen hts) hcell0 (by rw [hdk]; exact hin) _
   have hold : ∀ (m : Nat) (dk : Array α) (os : Array Obj), dk.size = d.size → (∀ b o, G.im b o → b < (sortWorldK enc t.size G.w blk off m dk os).heap.size) ∧ ∀ b, G.imo b → ∃ o, (sortWorldK enc t.size G.w blk off m dk os).heap[b]? = some o ∧ ImObj o := fun m dk os hdk =>
    ⟨fun b o hi => Nat.lt_of_lt_of_le (H.heap.old b o hi) sortW_size, fun b hi => by obtain ⟨o, e, e'⟩ := H.heap.oldo b hi; exact ⟨o, ((hst m dk os hdk).le.2 b hi).2.trans e, e'⟩⟩
   have hcm : CmpLays P g #[] enc t.size (fun x y => cf x.1.1 y.1.1) blk off d.size G.w := fun m os dk hdk x y => by
    have hle : ∀ n : Prop, G.le ⟨sortWorldK enc t.size G.w blk off m dk os, G.im, G.imo, n⟩ := fun n => (hst m dk os hdk).le
    exact quiet2 hcmp (hQ _ _ x.2.1 y.2.1) (hold m dk os hdk).1 (hold m dk os hdk).2 (fun g t x hx => (H.glob g t x (by rw [hg]; exact hx)).mono (hle False)) (.of_agg hag (Rep.mono t x.2.2 (hle False))) (.of_agg hag (Rep.mono t y.2.2 (hle False)))
   have hO : SWO (ltOf fun x y : α => cf x.1.1 y.1.1) := {
    irrefl := fun x => by simpa [ltOf] using Int.not_lt.1 (h1 _ x.2.1)
    trans := fun x y z hxy hyz => by
     simp only [ltOf, decide_eq_true_eq] at *
     exact h2 _ _ _ x.2.1 y.2.1 z.2.1 hxy hyz
    ntrans := fun x y z hxy hyz => by
     simp only [ltOf, decide_eq_false_iff_not] at *
     exact h3 _ _ _ x.2.1 y.2.1 z.2.1 hxy hyz }
   have hsz := hmany xs hpre
   have hrun := AnyQ.pdqsortCmpFunc_all L t.size aE zE enc (fun x y => cf x.1.1 y.1.1) g #[] hO blk off cap d G.w (enters_ok hcmp.1) hcm ⟨hk, hone, hH, hblk⟩ (d.size + 1) 0 d.size nl.toNat d G.w (by omega) rfl (SWK.start hH) (Nat.zero_le _) (Nat.le_refl _) (by rw [hd]; exact hsz) (by omega) (Or.inl rfl)
   rw [hd, Int.toNat_of_nonneg l1] at hrun
   refine hrun.mono fun e w' hr => ?_
   obtain ⟨rfl, n, os, rfl⟩ := hr
   have hps := pdq_sorts (ltOf fun x y : α => cf x.1.1 y.1.1) hO d 0 d.size nl.toNat true true (Nat.zero_le _) (Nat.le_refl _) (Or.inl rfl)
   rw [hd] at hps
   generalize pdq (ltOf fun x y : α => cf x.1.1 y.1.1) d 0 xs.length nl.toNat true true = d' at hps ⊢
   obtain ⟨hp, hs⟩ := hps
   rw [← hd] at hp hs
   have hd' : d'.size = d.size := hp.1
   have hperm : d'.toList.Perm d.toList := by
    have := hp.2.2
    rw [← hd', Array.extract_size, hd', Array.extract_size] at this
    exact this
   have hmap : d.toList.map (fun p => p.1.1) = xs := by
    apply List.ext_getElem
    · simp [hd]
    · intro i h1 h2
      simp [d]
   have hys : d'.toList.map (fun p => p.1.1) = res xs := by
    refine huniq xs _ hpre (by have := hperm.map (fun p : α => p.1.1); rw [hmap] at this; exact this) ?_
    rw [List.pairwise_map, List.pairwise_iff_getElem]
    intro i j hi hj hij
    have hj' : j < d.size := by rw [← hd']; simpa using hj
    have := hs i j (Nat.zero_le _) hij hj'
    rw [getElem!_pos d' j (by omega), getElem!_pos d' i (by omega)] at this
    simp only [ltOf, decide_eq_false_iff_not] at this
    simpa using this
   have hylen : (d'.toList.map (fun p => p.1.1)).length = xs.length := by rw [List.length_map, Array.length_toList, hd', hd]
   refine fin _ hys { G with w := sortWorldK enc t.size G.w blk off n d' os } ?_ (hst n d' os hd').le
   refine H.write (G' := { G with w := sortWorldK enc t.size G.w blk off n d' os }) 0 _ (.row t (d'.toList.map fun p => p.1.1)) hbv (by simp) rfl rfl (hst n d' os hd') ?_ (fun b i hf => hf) (fun b hf => hf)
   have hH' : HoldsK enc t.size (sortWorldK enc t.size G.w blk off n d' os) blk off d' := holdsK_sortWorldK_c enc t.size G.w blk off d d' n os hH hblk hd'
   refine ⟨some ⟨blk, off, none⟩, cap, by rw [hylen], by rw [hylen]; exact c1, c2, fun h => (by cases h), fun a ha => ?_⟩
   cases ha
   refine ⟨fun _ => rfl, fun j hj => ?_, fun i x hix => ?_⟩
   · obtain ⟨⟨u, hu⟩, hfz⟩ := hfree j hj
     refine ⟨?_, (sortW_frz blk (off + j) hblk).trans hfz⟩
     by_cases hjr : j < d'.size * t.size
     · exact ⟨_, (hH' j (by rw [flat_size]; exact hjr)).1⟩
     · exact ⟨u, (sortW_cell blk (off + j) hblk (by omega)).trans hu⟩
   · have hi : i < d'.size := by
      have := (List.getElem?_eq_some_iff.1 hix).1
      simpa using this
     have hxi : x = d'[i].1.1 := by
      have := (List.getElem?_eq_some_iff.1 hix).2
      rw [← this]; simp
     refine ⟨enc d'[i], fun j u hu => ?_, ?_⟩
     · have hj : j < t.size := by rw [← hk d'[i]]; exact (List.getElem?_eq_some_iff.1 hu).1
       have := hH'.cell hi hj
       rw [getElem!_pos d' i hi, getElem!_pos _ j (by rw [hk]; exact hj)] at this
       rw [(List.getElem?_eq_some_iff.1 hu).2] at this
       exact this.1
     · rw [hxi]
       exact Rep.mono t d'[i].2.2 (hst n d' os hd').le
end Go.Gv

/- The library's SortFunc at elements of one cell. -/
namespace Go.Gv
open Go Go.RowKit Go.Proofs Go.Shelf Go.Sort
end Go.Gv
