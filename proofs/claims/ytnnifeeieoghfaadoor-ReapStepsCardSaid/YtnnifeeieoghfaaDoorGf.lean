/- A verified generator of conditions over the code of the model. Part 6. -/
import Derived.Test.YtnnifeeieoghfaaDoorGe
import Derived.Shelf.Strconv.Itoa1
import Derived.Shelf.Strconv.Itoa2
import Derived.Lib.ItoaMem
import Derived.Lib.AppendIntMem
import Derived.Lib.SlFresh
import Derived.OwnWalk
set_option linter.all false

/- Decimal numerals: what the library's functions on them come to, as contracts, over any numbering. -/
namespace Go.Gv
open Go Go.Proofs Go.Shelf Go.RowKit Go.Sort

variable {P : Program} {ρ : Ren}

def digU (n : Nat) : List Int := (Lib.decDigits n).map (fun b : UInt8 => (b.toNat : Int))

@[reducible] def smallSpec : Spec := { ins := .cons (.d (.int .i64)) .nil, pre := fun x => 0 ≤ x.1 ∧ x.1 < 100, alts := [{ outs := .cons (.d .str) .nil, res := fun x => (Lib.decDigits x.1.toNat, ()) }] }

theorem dat1 {t : Ty} {x : Dat t} {β : Asg} {G : GW} {args : List Value} (h : satT (.cons (.dat t x) .nil) β G args) : ∃ v, args = [v] ∧ RepV t x G v := by
  unfold satT at h
  obtain ⟨v, l, rfl, h1, h2⟩ := h
  unfold satT at h2
  subst h2
  unfold sat at h1
  exact ⟨v, rfl, h1⟩
theorem dat1_mk {t : Ty} {x : Dat t} {β : Asg} {G : GW} {v : Value} (h : RepV t x G v) : satT (.cons (.dat t x) .nil) β G [v] := by
  unfold satT
  exact ⟨v, [], rfl, by unfold sat; exact h, by unfold satT; rfl⟩
theorem int_rep {k : IntKind} {x : Int} {G : GW} {v : Value} (h : RepV (.int k) x G v) : v = .int k x ∧ lo k ≤ x ∧ x ≤ hi k := by
  have := h.to_one rfl
  unfold Rep at this
  simp only [List.cons.injEq, and_true] at this
  exact ⟨this.1, has_iff.1 this.2⟩
theorem decDigits_le (n : Nat) (h : n < 18446744073709551616) : (Lib.decDigits n).length ≤ 20 := by
  rw [Lib.decDigits_length]
  rcases Nat.lt_or_ge n 10 with h1 | h1
  · rw [Lib.nDigits_small h1]; omega
  · have := Lib.numDigits_eq n (by omega) h
    split at this <;> omega

theorem small_ok {gl : Glob} (L : Lays.n283 P ρ) {fn : Func} {n : Nat} (hf : FnOK P (ρ.f 283) fn n) : SpecOK P gl (ρ.f 283) smallSpec :=
  pure_ok hf rfl rfl fun x hp β G args _ ha => by
    obtain ⟨i, ⟨⟩⟩ := x
    obtain ⟨v, rfl, hv⟩ := dat1 ha
    obtain ⟨rfl, h1, h2⟩ := int_rep hv
    have hp : 0 ≤ i ∧ i < 100 := hp
    have h0 : @LE.le Int _ 0 i := hp.1
    have h9 : @LT.lt Int _ i 100 := hp.2
    clear hp
    replace h1 : @LE.le Int _ (lo .i64) i := h1
    generalize (i : Int) = i at *
    obtain ⟨u, rfl⟩ : ∃ u : Nat, i = u := ⟨i.toNat, (Int.toNat_of_nonneg h0).symm⟩
    have hu : u < 100 := by omega
    refine Calls.mono (Any.internal_strconv_small L u hu G.w) fun e w' h => ?_
    obtain ⟨rfl, rfl⟩ := h
    refine ⟨[_], rfl, rfl, dat1_mk (.of_one rfl ?_)⟩
    unfold Rep
    refine ⟨rfl, ?_⟩
    have := decDigits_le u (by omega)
    show (Lib.decDigits u).length ≤ maxLen
    unfold maxLen
    omega

set_option maxHeartbeats 2000000 in
set_option maxRecDepth 100000 in
theorem numDigits_calls (L : Lays.n284 P ρ) (u : Nat) (h1 : 1 ≤ u) (h2 : u < 18446744073709551616) (w : World)
    (hcell : w.cell? ⟨ρ.g 17, Lib.l10 (Lib.bitLen u), none⟩ = some (.int .u64 ((10 ^ Lib.l10 (Lib.bitLen u) : Nat) : Int))) :
    Calls P (ρ.f 284) #[.int .u64 u] w fun e w' => e = .returned (.int .i64 (Lib.nDigits u)) ∧ w' = w := by
  have mixed := L.mixed
  have t53 := L.t53; have a53 := L.a53; have z53 := L.z53; have v53 := L.v53
  have t3 := L.t3; have a3 := L.a3; have z3 := L.z3; have v3 := L.v3
  have t212 := L.t212; have a212 := L.a212; have z212 := L.z212; have v212 := L.v212
  have t0 := L.t0; have a0 := L.a0; have z0 := L.z0; have v0 := L.v0
  have t4 := L.t4; have a4 := L.a4; have z4 := L.z4; have v4 := L.v4
  have e129 : ∀ args w, (callFunc (ρ.f 129) args).run P w = .ok (.enter (ρ.f 129) args) w := enters_of L.f129 (by kernel_rfl) rfl
  have e317 : ∀ args w, (callFunc (ρ.f 317) args).run P w = .ok (.enter (ρ.f 317) args) w := enters_of L.f317 (by kernel_rfl) rfl
  have e318 : ∀ args w, (callFunc (ρ.f 318) args).run P w = .ok (.enter (ρ.f 318) args) w := enters_of L.f318 (by kernel_rfl) rfl
  obtain ⟨hnd, h19⟩ := Lib.numDigits_eq u h1 h2
  have hL : Lib.bitLen u ≤ 64 := Lib.bitLen_le u 64 (Nat.le_refl _) h2
  have hto : ((u : Int)).toNat = u := by omega
  generalize hq : Lib.l10 (Lib.bitLen u) = q at hnd h19 hcell
  generalize hT : 10 ^ q = T at hnd hcell
  have h20 : q < 20 := by omega
  have Hnd := Lib.hid hnd
  clear hnd
  go_enter L.f284, Body.n284_ntmps ρ
  go_wp2_with (first
    | (go_at_fn (ρ.f 129); refine (Any.bits_Len64 { L with } _ _ (by omega) (by omega)).mono ?_; rintro e w' ⟨rfl, rfl⟩)
    | (go_at_fn (ρ.f 317); refine (Any.internal_strconv_log10Pow2 { L with } _ (by first | exact hL | (rw [hto]; exact hL)) _).mono ?_; rintro e w' ⟨rfl, rfl⟩)
    | (go_at_fn (ρ.f 318); refine (Any.internal_strconv_bool2_int { L with } _ _).mono ?_; rintro e w' ⟨rfl, rfl⟩))
  all_goals go_ret
  all_goals (
    refine ⟨?_, rfl⟩
    have hnd := Hnd.out
    congr 2
    split at hnd <;> simp_all <;> omega)

theorem cons2 {a b : AP} {β : Asg} {G : GW} {args : List Value} (h : satT (.cons a b) β G args) : ∃ v l, args = v :: l ∧ sat a β G v ∧ satT b β G l := by
  unfold satT at h
  exact h
theorem nil2 {β : Asg} {G : GW} {args : List Value} (h : satT .nil β G args) : args = [] := by
  unfold satT at h
  exact h

/-- What appending to a slice with room comes to. -/
theorem app_spare {E : Env} (hE : E.ok P = true) {C : Ctx} {hp : Nat → HObj} {nx h : Nat} {T ty : TypeId} {nb : Nat} (hT : E.ty T = some (.sl (.int .u8), nb)) {xs ys : List Int} {β : Asg} {G : GW} (H : HInv C hp β G) (hn : hp nx = .none) (hh : hp h = .spare (.int .u8))
    {u v : Value} (hu : sat (.sl h (.int .u8) xs) β G u) (hv : RepV (.sl (.int .u8)) ys G v) (hroom : xs.length + ys.length ≤ 2000000000) :
    ∃ v' β' G', (Builtin.append_ #[T, T] ty #[u, v]).run P G.w = .ok v' G'.w ∧ HInv C (hset hp [(nx, .spare (.int .u8)), (h, .dead)]) β' G' ∧ β.le β' ∧ G.le G' ∧ sat (.sl nx (.int .u8) (xs ++ ys)) β' G' v' := by
  have he : appendA E hp nx T T (.sl h (.int .u8) xs) (.dat (.sl (.int .u8)) ys) = some { vc := [room (xs.length + ys.length : Nat) ((Ty.int .u8).size * 64)], ap := .sl nx (.int .u8) (xs ++ ys), hw := [(nx, .spare (.int .u8)), (h, .dead)], k := 1 } := by
    unfold appendA
    rw [hT]
    have e1 : elemsT hp (.int .u8) (some (Ty.sl (.int .u8), nb)) (.dat (.sl (.int .u8)) ys) = some ys := by
      unfold elemsT elemsA
      simp only [slV, castDat_self]
    dsimp only
    rw [e1]
    dsimp only
    rw [hh, castDat_self]
    dsimp only
    rw [decide_eq_true (rfl : Ty.int .u8 = .int .u8)]
  obtain ⟨v', β', G', h1, h2, h3, h4, h5⟩ := appendA_run (P := P) (ty := ty) (ats := #[T, T]) hE rfl rfl H hn he (fun p hp => by
    simp only [List.mem_singleton] at hp
    subst hp
    unfold room
    simp only [Ty.size]
    omega) hu (by unfold sat; exact hv)
  exact ⟨v', β', G', h1, h2, h3, h4, h5⟩

@[reducible] def appU (q : Int → Prop) : Spec := { ins := .cons (.spare (.int .u8)) (.cons (.d (.int .u64)) (.cons (.d (.int .i64)) .nil)), pre := fun x => (x.2.2.1 = 10 ∧ List.length x.1 ≤ 1100000000) ∧ q x.2.1, alts := [{ outs := .cons (.spare (.int .u8)) .nil, res := fun x => (x.1 ++ digU x.2.1.toNat, ()) }] }

set_option maxHeartbeats 12800000 in
set_option maxRecDepth 100000 in
theorem appU_big {gl : Glob} (L : Lays.n288 P ρ) {E : Env} (hE : E.ok P = true) {nb : Nat} (hT : E.ty (ρ.t 37) = some (.sl (.int .u8), nb)) {fn : Func} {n : Nat} (hf : FnOK P (ρ.f 288) fn n)
    (hgl : gl (ρ.g 17) = some ⟨.arr 20 (.int .u64), Lib.pow10Tab⟩) : SpecOK P gl (ρ.f 288) (appU (fun u => ¬ u < 100)) := by
  refine ⟨⟨fn, hf.at', by have := hf.body; revert this; cases fn.body <;> simp, hf.name⟩, fun x hpre => ⟨_, rfl, fun C β G args hg H hargs => ?_⟩⟩
  obtain ⟨xs, ui, bi, ⟨⟩⟩ := x
  obtain ⟨⟨h10, hxl⟩, hbig⟩ : (bi = 10 ∧ List.length xs ≤ 1100000000) ∧ ¬ ui < 100 := hpre
  obtain ⟨sv, l1, rfl, hs, hl1⟩ := cons2 hargs
  obtain ⟨v1, l2, rfl, hs1, hl2⟩ := cons2 hl1
  obtain ⟨v2, l3, rfl, hs2, hl3⟩ := cons2 hl2
  obtain rfl := nil2 hl3
  unfold sat at hs1 hs2
  obtain ⟨rfl, hu0, hu1⟩ := int_rep hs1
  obtain ⟨rfl, _, _⟩ := int_rep hs2
  subst h10
  replace hu0 : @LE.le Int _ 0 ui := hu0
  replace hu1 : @LE.le Int _ ui 18446744073709551615 := hu1
  replace hbig : ¬ @LT.lt Int _ ui 100 := hbig
  obtain ⟨u, rfl⟩ : ∃ u : Nat, ui = u := ⟨ui.toNat, (Int.toNat_of_nonneg hu0).symm⟩
  have hu64 : u < 18446744073709551616 := by omega
  have hu : 100 ≤ u := by omega
  have hnd20 := decDigits_le u hu64
  rw [Lib.decDigits_length] at hnd20
  have hcell : G.w.cell? ⟨ρ.g 17, Lib.l10 (Lib.bitLen u), none⟩ = some (.int .u64 ((10 ^ Lib.l10 (Lib.bitLen u) : Nat) : Int)) := by
    have h1 := H.glob (ρ.g 17) _ _ (by rw [hg]; exact hgl)
    unfold sat at h1
    obtain ⟨b, o, cells, e, hc, hr⟩ := h1
    cases e
    unfold Rep at hr
    obtain ⟨_, hcl, hx⟩ := hr
    have hq : Lib.l10 (Lib.bitLen u) < 20 := by have := (Lib.numDigits_eq u (by omega) hu64).2; omega
    have hql : Lib.l10 (Lib.bitLen u) < Lib.pow10Tab.length := by rw [Lib.pow10Tab_length]; exact hq
    have hat := Lib.pow10Tab_at (Lib.l10 (Lib.bitLen u)) hq
    rw [getD_ok 0 hql] at hat
    have h2 := hx _ _ (List.getElem?_eq_getElem hql)
    rw [hat] at h2
    unfold Rep at h2
    have h3 := congrArg (fun l : List Value => l[0]?) h2.1
    simp only [Ty.size, Nat.mul_one, List.getElem?_take, List.getElem?_drop, Nat.add_zero] at h3
    have h4 := (hc _ _ (by simpa using h3)).2
    rwa [Nat.zero_add] at h4
  have hglt := cell_lt hcell
  have hcz : ((G.w.alloc (.cells Lib.zeros24 (ρ.t 171))).cell? ⟨ρ.g 17, Lib.l10 (Lib.bitLen u), none⟩) = _ := (cell_alloc_lt _ _ _ _ hglt).trans hcell
  clear hcell hglt hgl
  have mixed := L.mixed
  have t5 := L.t5; have a5 := L.a5; have z5 := L.z5; have v5 := L.v5
  have t37 := L.t37; have u37 := run_underlying L.t37; have a37 := L.a37; have z37 := L.z37; have v37 := L.v37
  have t53 := L.t53; have a53 := L.a53; have z53 := L.z53; have v53 := L.v53
  have t3 := L.t3; have a3 := L.a3; have z3 := L.z3; have v3 := L.v3
  have t4 := L.t4; have a4 := L.a4; have z4 := L.z4; have v4 := L.v4
  have t9 := L.t9; have a9 := L.a9; have z9 := L.z9; have v9 := L.v9
  have t171 := L.t171; have a171 := L.a171; have z171 := L.z171; have v171 := L.v171
  have t0 := L.t0; have a0 := L.a0; have z0 := L.z0; have v0 := L.v0
  have t173 := L.t173; have a173 := L.a173; have z173 := L.z173; have v173 := L.v173
  have e284 : ∀ args w, (callFunc (ρ.f 284) args).run P w = .ok (.enter (ρ.f 284) args) w := enters_of L.f284 (by kernel_rfl) rfl
  have e285 : ∀ args w, (callFunc (ρ.f 285) args).run P w = .ok (.enter (ρ.f 285) args) w := enters_of L.f285 (by kernel_rfl) rfl
  have hal : P.arrayLen (ρ.t 171) = 24 := by simp [Program.arrayLen, L.t171]
  have hsl : ∀ W, (Instr.sliceAt (ρ.t 171) (.pointer (some ⟨G.w.heap.size, 0, none⟩)) none (some (.int .i64 (Lib.nDigits u : Int))) none).run P W = .ok (.slice (some ⟨G.w.heap.size, 0, none⟩) (Lib.nDigits u) 24) W := fun W => by
    rw [run_sliceAt_array_h W (ρ.t 171) ⟨G.w.heap.size, 0, none⟩ (by simp [Program.arrayLen, Program.elem, L.t171]) .i64 (Lib.nDigits u : Int) (by omega) (by rw [hal]; omega)]
    go_simp
  have hH0 := Lib.holds_zero0 G.w (ρ.t 171) (Lib.nDigits u) (by omega)
  have hfmt := Any.internal_strconv_formatBase10 { L with } G.w.heap.size 0 24 u (Array.replicate (Lib.nDigits u) 0) (G.w.alloc (.cells Lib.zeros24 (ρ.t 171))) hH0 (by rw [Array.size_replicate]; exact Lib.lt_pow_nDigits u) hu64 (by rw [Array.size_replicate]; omega)
  rw [Array.size_replicate] at hfmt
  have HH0 := Lib.hid hH0
  have iu : (100 : Int) ≤ (u : Int) := by omega
  clear hH0 hal hbig hl1 hl2 hl3 hargs hs1 hs2
  have HH := Hd.mk H
  have HS := Hd.mk hs
  clear H hs
  go_enter L.f288, Body.n288_ntmps ρ
  go_wp2_with (first
    | (go_at_fn (ρ.f 284); refine (numDigits_calls { L with } u (by omega) hu64 _ hcz).mono ?_; rintro e w' ⟨rfl, rfl⟩))
  go_at_fn (ρ.f 285)
  refine hfmt.mono ?_
  rintro e w' ⟨rfl, k, v', dk, rfl, hF⟩
  have hdl : (Lib.decDigits u).length = Lib.nDigits u := Lib.decDigits_length u
  have hcells : ∀ j, j < Lib.nDigits u → ((putRow (fun (b : UInt8) => Value.int .u8 (b.toNat : Int)) (G.w.alloc (.cells Lib.zeros24 (ρ.t 171))) G.w.heap.size 0 dk).drewN k).cell? ⟨G.w.heap.size, j, none⟩ = some (Value.int .u8 (((Lib.decDigits u).getD j 0).toNat : Int)) := by
    intro j hj
    rw [getD_ok 0 (by omega), Lib.row_is_numeral hF j (by omega), World.cell?_drewN]
    have := cell?_putRow (fun (b : UInt8) => Value.int .u8 (b.toNat : Int)) _ G.w.heap.size 0 _ dk HH0.out (by rw [hF.size, Array.size_replicate]) j (by rw [hF.size]; exact hj)
    rwa [Nat.zero_add] at this
  obtain ⟨os, eo⟩ := Lib.fin_at G.w (.cells Lib.zeros24 (ρ.t 171)) dk k 0
  have hsz2 : G.w.heap.size < ((putRow (fun (b : UInt8) => Value.int .u8 (b.toNat : Int)) (G.w.alloc (.cells Lib.zeros24 (ρ.t 171))) G.w.heap.size 0 dk).drewN k).heap.size := by
    have h0 := Lib.nDigits_big (show ¬ u < 10 by omega)
    have := cell_lt (hcells 0 (by omega))
    exact this
  have hold : ∀ b, b < G.w.heap.size → ((putRow (fun (b : UInt8) => Value.int .u8 (b.toNat : Int)) (G.w.alloc (.cells Lib.zeros24 (ρ.t 171))) G.w.heap.size 0 dk).drewN k).heap[b]? = G.w.heap[b]? := fun b hb => by rw [eo]; exact Lib.heap_grow_old _ _ _ _ hb
  have hmisc : ((putRow (fun (b : UInt8) => Value.int .u8 (b.toNat : Int)) (G.w.alloc (.cells Lib.zeros24 (ρ.t 171))) G.w.heap.size 0 dk).drewN k).os = G.w.os ∧ ((putRow (fun (b : UInt8) => Value.int .u8 (b.toNat : Int)) (G.w.alloc (.cells Lib.zeros24 (ρ.t 171))) G.w.heap.size 0 dk).drewN k).tape = G.w.tape ∧ ((putRow (fun (b : UInt8) => Value.int .u8 (b.toNat : Int)) (G.w.alloc (.cells Lib.zeros24 (ρ.t 171))) G.w.heap.size 0 dk).drewN k).output = G.w.output := by rw [eo]; exact ⟨rfl, rfl, rfl⟩
  generalize (putRow (fun (b : UInt8) => Value.int .u8 (b.toNat : Int)) (G.w.alloc (.cells Lib.zeros24 (ρ.t 171))) G.w.heap.size 0 dk).drewN k = W2 at hcells hsz2 hold hmisc ⊢
  clear eo HH0 hfmt
  obtain ⟨m1, m2, m3⟩ := hmisc
  have H := HH.out
  have hs := HS.out
  clear HH HS
  -- the new block is nobody's, and nobody will write it any more
  let G2 : GW := { w := W2, im := fun b o => G.im b o ∨ b = G.w.heap.size, imo := G.imo }
  have hst : Step (fun _ _ => False) (fun _ => False) G G2 := {
    os := m1
    tape := m2
    output := m3
    size := Nat.le_of_lt hsz2
    cell := fun b o hb _ => by
      have e := hold b hb
      exact ⟨by show W2.cell? _ = _; unfold World.cell?; rw [e], by show W2.frozen? _ = _; unfold World.frozen?; rw [e]⟩
    blk := fun b hb _ _ => hold b hb
    obj := fun b es c _ he => (hold b (Array.getElem?_eq_some_iff.1 he).1).trans he
    le := ⟨fun b o hi => ⟨.inl hi, by show W2.cell? _ = _; unfold World.cell?; rw [hold b (H.heap.old b o hi)]⟩, fun b hi => ⟨hi, by
      obtain ⟨es, c, he⟩ := H.heap.oldo b hi
      exact hold b (Array.getElem?_eq_some_iff.1 he).1⟩⟩
    new := fun b o hi => hi.elim .inl (fun e => .inr (.inr (by rw [e]; exact Nat.le_refl _)))
    newo := fun b hi => .inl hi }
  have H2 : HInv C _ β G2 := H.same hst (fun b o hi => hi.elim (fun h => Nat.lt_trans (H.heap.old b o h) hsz2) (fun e => by rw [e]; exact hsz2)) (fun b hi => by
    obtain ⟨es, c, he⟩ := H.heap.oldo b hi
    exact ⟨es, c, (hold b (Array.getElem?_eq_some_iff.1 he).1).trans he⟩)
  have hs2 := sat.mono _ hs (Asg.le_refl β) hst.le
  have hdg : (digU u).length = Lib.nDigits u := by unfold digU; rw [List.length_map, hdl]
  have hrep : RepV (.sl (.int .u8)) (digU u) G2 (.slice (some ⟨G.w.heap.size, 0, none⟩) (Lib.nDigits u) 24) := by
    refine .of_one rfl ⟨some ⟨G.w.heap.size, 0, none⟩, 24, by rw [hdg], by rw [hdg]; omega, by unfold maxLen; omega, fun h => (by cases h), fun a ha => ?_⟩
    cases ha
    refine ⟨fun _ => rfl, fun i x hx => ?_⟩
    have hil := (List.getElem?_eq_some_iff.1 hx).1
    rw [hdg] at hil
    unfold digU at hx
    rw [List.getElem?_map, Option.map_eq_some_iff] at hx
    obtain ⟨b, hb, rfl⟩ := hx
    refine ⟨[.int .u8 (b.toNat : Int)], fun j v hv => ?_, ?_⟩
    · cases j with
      | zero =>
        simp only [List.getElem?_cons_zero, Option.some.injEq] at hv
        subst hv
        refine ⟨.inr rfl, ?_⟩
        have := hcells i hil
        rw [List.getD_eq_getElem?_getD, hb] at this
        show W2.cell? ⟨G.w.heap.size, 0 + i * 1 + 0, none⟩ = _
        rw [Nat.zero_add, Nat.mul_one, Nat.add_zero]
        exact this
      | succ j => simp at hv
    · unfold Rep
      refine ⟨rfl, has_iff.2 ?_⟩
      have hb8 := b.toNat_lt
      simp only [lo, hi]
      omega
  obtain ⟨vr, β3, G3, hrun, H3, lb, lg, hv3⟩ := app_spare (P := P) (nx := 1) (h := 0) (ty := ρ.t 37) hE hT H2 (canon_out _ _ (Nat.le_refl _)) rfl hs2 hrep (by rw [hdg]; omega)
  have hrun : (Builtin.append_ #[ρ.t 37, ρ.t 37] (ρ.t 37) #[sv, .slice (some ⟨G.w.heap.size, 0, none⟩) (Lib.nDigits u) 24]).run P W2 = .ok vr G3.w := hrun
  have HH := Hd.mk H3
  have HS := Hd.mk hv3
  have HL := Hd.mk (GW.le_trans hst.le lg)
  clear H H2 H3 hs hs2 hv3 hst lg
  go_wp2_with (at_builtin; refine Lib.wpList_append_run_sl _ rfl _ _ (ρ.t 37) rfl _ _ rfl rfl hrun ?_)
  go_wp2
  go_ret
  refine ⟨⟨_, β3, G3, [.sl 1 (.int .u8) (xs ++ digU u)], [vr], 2, (xs ++ digU u, ()), [1], [], 2, (xs, (u : Int), (10 : Int), ()), [], [], 2, rfl, HH.out, lb, HL.out, rfl, ?_, fun k hk => ?_, ?_, ?_, rfl, ?_, rfl, rfl⟩⟩
  · show satT (.cons _ .nil) _ _ _
    unfold satT
    exact ⟨vr, [], rfl, HS.out, by unfold satT; rfl⟩
  · have h1 : ¬ k = 1 := by omega
    have h0 : ¬ k = 0 := by omega
    simp only [hset, h1, h0, if_false]
    exact canon_out _ _ (by show 1 ≤ k; omega)
  · simp [listA, fromA, hset, castDat_self]
  · simp only [bk, bkEnd, backS, endAP, fromA, toDat_dat]
    rfl
  · rfl
end Go.Gv
