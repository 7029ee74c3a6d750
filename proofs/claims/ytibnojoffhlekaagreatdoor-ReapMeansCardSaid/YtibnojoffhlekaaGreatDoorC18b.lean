/- Chapter 18: the program's sweep. -/
import Derived.Test.YtibnojoffhlekaaGreatDoorC18
import Derived.Test.YtibnojoffhlekaaGreatDoorC16b
set_option linter.all false
namespace Go.Gv
open Go Go.Proofs Go.Proofs.YtibnojoffhlekaaGreatDoor
set_option maxRecDepth 100000
set_option maxHeartbeats 4000000
@[reducible] noncomputable def S_z111:Spec:={ ins:= .cons (.d (.sl tInt)) .nil,pre:=fun x=>List.length x.1≤1000000,alts:=[{ outs:= .cons (.spare tInt) .nil,res:=fun x=>(x.1,())}]}
set_option maxRecDepth 100000 in
theorem ok_z111:SpecOK SP glob fi_z111 S_z111:=by
 refine nil_ok (c:=cf_z111 (Fl [])) (t:=tInt) (tab_ok _) mix_ok wf_z111 .nil (fun _ _=>Nat.zero_lt_one) rfl (by decide) ?_
 rintro ⟨xs,⟨⟩⟩ ys h hpre hok X hX
 have h':(xs,PUnit.unit)=(ys,()):=eq_of_heq h
 simp only [Prod.mk.injEq,and_true] at h'
 subst h'
 have hln:List.length xs≤1000000:=hpre
 clear hpre
 rcases hX with ⟨rfl,h0⟩|⟨rfl,rfl⟩|⟨a,k,rfl,h1,h2,rfl⟩
 · conv=>(arg 2;whnf)
   repeat' (first|refine an ?_ ?_|((try refine gm ?_);first|((with_reducible show Kz _);(try dsimp+instances only);(with_reducible refine kz _ ?_);clear kz Kz)|refine st ?_|(refine sr ?_;intro Kz kz;conv=>whnf)|(refine cd ?_;(conv=>arg 2;whnf);refine st ?_)|refine blockK_y (by rfl) ?_|(refine sw ?_;conv=>whnf))|(refine gm ?_;conv=>whnf)|(intro hc;(try dsimp+instances only[Dat,SDat,dflt,Ty.size,keepS,bkUpd,Gv.bk,backS,wayA,maxI,minI,negI]at hc);try simp only[LS]at hc))
   all_goals (try ((fail_if_success refine nl ?_);(try dsimp only[Dat,SDat,dflt,Ty.size,keepS,bkUpd,Gv.bk,backS,wayA,maxI,minI,negI]);(try simp only[LS]);first|done|exact dsc|((try simp only[allP,lo,hi,room,true_and,and_true,implies_true]);(repeat' (first|refine an ?_ ?_|((with_reducible refine preA_t ?_ ?_);rotate_left;exact sameP_t)|intro hv))<;>(try omega))))
   all_goals (try (change retA _ _ _ _ _;conv=>whnf))
   repeat' (first|refine an ?_ ?_|((try refine gm ?_);first|((with_reducible show Kz _);(try dsimp+instances only);(with_reducible refine kz _ ?_);clear kz Kz)|refine st ?_|(refine sr ?_;intro Kz kz;conv=>whnf)|(refine cd ?_;(conv=>arg 2;whnf);refine st ?_)|refine blockK_y (by rfl) ?_|(refine sw ?_;conv=>whnf))|(refine gm ?_;conv=>whnf)|(intro hc;(try dsimp+instances only[Dat,SDat,dflt,Ty.size,keepS,bkUpd,Gv.bk,backS,wayA,maxI,minI,negI]at hc);try simp only[LS]at hc))
   all_goals (try ((fail_if_success refine nl ?_);(try dsimp only[Dat,SDat,dflt,Ty.size,keepS,bkUpd,Gv.bk,backS,wayA,maxI,minI,negI]);(try simp only[LS]);first|done|exact dsc|((try simp only[allP,lo,hi,room,true_and,and_true,implies_true]);(repeat' (first|refine an ?_ ?_|((with_reducible refine preA_t ?_ ?_);rotate_left;exact sameP_t)|intro hv))<;>(try omega))))
 · conv=>(arg 2;whnf)
   repeat' (first|refine an ?_ ?_|((try refine gm ?_);first|((with_reducible show Kz _);(try dsimp+instances only);(with_reducible refine kz _ ?_);clear kz Kz)|refine st ?_|(refine sr ?_;intro Kz kz;conv=>whnf)|(refine cd ?_;(conv=>arg 2;whnf);refine st ?_)|refine blockK_y (by rfl) ?_|(refine sw ?_;conv=>whnf))|(refine gm ?_;conv=>whnf)|(intro hc;(try dsimp+instances only[Dat,SDat,dflt,Ty.size,keepS,bkUpd,Gv.bk,backS,wayA,maxI,minI,negI]at hc);try simp only[LS]at hc))
   all_goals (try ((fail_if_success refine nl ?_);(try dsimp only[Dat,SDat,dflt,Ty.size,keepS,bkUpd,Gv.bk,backS,wayA,maxI,minI,negI]);(try simp only[LS]);first|done|exact dsc|((try simp only[allP,lo,hi,room,true_and,and_true,implies_true]);(repeat' (first|refine an ?_ ?_|((with_reducible refine preA_t ?_ ?_);rotate_left;exact sameP_t)|intro hv))<;>(try omega))))
   all_goals (try (change retA _ _ _ _ _;conv=>whnf))
   repeat' (first|refine an ?_ ?_|((try refine gm ?_);first|((with_reducible show Kz _);(try dsimp+instances only);(with_reducible refine kz _ ?_);clear kz Kz)|refine st ?_|(refine sr ?_;intro Kz kz;conv=>whnf)|(refine cd ?_;(conv=>arg 2;whnf);refine st ?_)|refine blockK_y (by rfl) ?_|(refine sw ?_;conv=>whnf))|(refine gm ?_;conv=>whnf)|(intro hc;(try dsimp+instances only[Dat,SDat,dflt,Ty.size,keepS,bkUpd,Gv.bk,backS,wayA,maxI,minI,negI]at hc);try simp only[LS]at hc))
   all_goals (try ((fail_if_success refine nl ?_);(try dsimp only[Dat,SDat,dflt,Ty.size,keepS,bkUpd,Gv.bk,backS,wayA,maxI,minI,negI]);(try simp only[LS]);first|done|exact dsc|((try simp only[allP,lo,hi,room,true_and,and_true,implies_true]);(repeat' (first|refine an ?_ ?_|((with_reducible refine preA_t ?_ ?_);rotate_left;exact sameP_t)|intro hv))<;>(try omega))))
 · conv=>(arg 2;whnf)
   repeat' (first|refine an ?_ ?_|((try refine gm ?_);first|((with_reducible show Kz _);(try dsimp+instances only);(with_reducible refine kz _ ?_);clear kz Kz)|refine st ?_|(refine sr ?_;intro Kz kz;conv=>whnf)|(refine cd ?_;(conv=>arg 2;whnf);refine st ?_)|refine blockK_y (by rfl) ?_|(refine sw ?_;conv=>whnf))|(refine gm ?_;conv=>whnf)|(intro hc;(try dsimp+instances only[Dat,SDat,dflt,Ty.size,keepS,bkUpd,Gv.bk,backS,wayA,maxI,minI,negI]at hc);try simp only[LS]at hc))
   all_goals (try ((fail_if_success refine nl ?_);(try dsimp only[Dat,SDat,dflt,Ty.size,keepS,bkUpd,Gv.bk,backS,wayA,maxI,minI,negI]);(try simp only[LS]);first|done|exact dsc|((try simp only[allP,lo,hi,room,true_and,and_true,implies_true]);(repeat' (first|refine an ?_ ?_|((with_reducible refine preA_t ?_ ?_);rotate_left;exact sameP_t)|intro hv))<;>(try omega))))
   all_goals (try (change retA _ _ _ _ _;conv=>whnf))
   repeat' (first|refine an ?_ ?_|((try refine gm ?_);first|((with_reducible show Kz _);(try dsimp+instances only);(with_reducible refine kz _ ?_);clear kz Kz)|refine st ?_|(refine sr ?_;intro Kz kz;conv=>whnf)|(refine cd ?_;(conv=>arg 2;whnf);refine st ?_)|refine blockK_y (by rfl) ?_|(refine sw ?_;conv=>whnf))|(refine gm ?_;conv=>whnf)|(intro hc;(try dsimp+instances only[Dat,SDat,dflt,Ty.size,keepS,bkUpd,Gv.bk,backS,wayA,maxI,minI,negI]at hc);try simp only[LS]at hc))
   all_goals (try ((fail_if_success refine nl ?_);(try dsimp only[Dat,SDat,dflt,Ty.size,keepS,bkUpd,Gv.bk,backS,wayA,maxI,minI,negI]);(try simp only[LS]);first|done|exact dsc|((try simp only[allP,lo,hi,room,true_and,and_true,implies_true]);(repeat' (first|refine an ?_ ?_|((with_reducible refine preA_t ?_ ?_);rotate_left;exact sameP_t)|intro hv))<;>(try omega))))
   all_goals (first|assumption|exact h2 (by assumption))
@[reducible] noncomputable def S_z110:Spec:={ ins:= .cons (.d (.sl tGate)) .nil,pre:=fun x=>List.length x.1≤1000000,alts:=[{ outs:= .cons (.spare tGate) .nil,res:=fun x=>(x.1,())}]}
set_option maxRecDepth 100000 in
theorem ok_z110:SpecOK SP glob fi_z110 S_z110:=by
 refine nil_ok (c:=cf_z110 (Fl [])) (t:=tGate) (tab_ok _) mix_ok wf_z110 .nil (fun _ _=>Nat.zero_lt_one) rfl (by decide) ?_
 rintro ⟨xs,⟨⟩⟩ ys h hpre hok X hX
 have h':(xs,PUnit.unit)=(ys,()):=eq_of_heq h
 simp only [Prod.mk.injEq,and_true] at h'
 subst h'
 have hln:List.length xs≤1000000:=hpre
 clear hpre
 rcases hX with ⟨rfl,h0⟩|⟨rfl,rfl⟩|⟨a,k,rfl,h1,h2,rfl⟩
 · conv=>(arg 2;whnf)
   repeat' (first|refine an ?_ ?_|((try refine gm ?_);first|((with_reducible show Kz _);(try dsimp+instances only);(with_reducible refine kz _ ?_);clear kz Kz)|refine st ?_|(refine sr ?_;intro Kz kz;conv=>whnf)|(refine cd ?_;(conv=>arg 2;whnf);refine st ?_)|refine blockK_y (by rfl) ?_|(refine sw ?_;conv=>whnf))|(refine gm ?_;conv=>whnf)|(intro hc;(try dsimp+instances only[Dat,SDat,dflt,Ty.size,keepS,bkUpd,Gv.bk,backS,wayA,maxI,minI,negI]at hc);try simp only[LS]at hc))
   all_goals (try ((fail_if_success refine nl ?_);(try dsimp only[Dat,SDat,dflt,Ty.size,keepS,bkUpd,Gv.bk,backS,wayA,maxI,minI,negI]);(try simp only[LS]);first|done|exact dsc|((try simp only[allP,lo,hi,room,true_and,and_true,implies_true]);(repeat' (first|refine an ?_ ?_|((with_reducible refine preA_t ?_ ?_);rotate_left;exact sameP_t)|intro hv))<;>(try omega))))
   all_goals (try (change retA _ _ _ _ _;conv=>whnf))
   repeat' (first|refine an ?_ ?_|((try refine gm ?_);first|((with_reducible show Kz _);(try dsimp+instances only);(with_reducible refine kz _ ?_);clear kz Kz)|refine st ?_|(refine sr ?_;intro Kz kz;conv=>whnf)|(refine cd ?_;(conv=>arg 2;whnf);refine st ?_)|refine blockK_y (by rfl) ?_|(refine sw ?_;conv=>whnf))|(refine gm ?_;conv=>whnf)|(intro hc;(try dsimp+instances only[Dat,SDat,dflt,Ty.size,keepS,bkUpd,Gv.bk,backS,wayA,maxI,minI,negI]at hc);try simp only[LS]at hc))
   all_goals (try ((fail_if_success refine nl ?_);(try dsimp only[Dat,SDat,dflt,Ty.size,keepS,bkUpd,Gv.bk,backS,wayA,maxI,minI,negI]);(try simp only[LS]);first|done|exact dsc|((try simp only[allP,lo,hi,room,true_and,and_true,implies_true]);(repeat' (first|refine an ?_ ?_|((with_reducible refine preA_t ?_ ?_);rotate_left;exact sameP_t)|intro hv))<;>(try omega))))
 · conv=>(arg 2;whnf)
   repeat' (first|refine an ?_ ?_|((try refine gm ?_);first|((with_reducible show Kz _);(try dsimp+instances only);(with_reducible refine kz _ ?_);clear kz Kz)|refine st ?_|(refine sr ?_;intro Kz kz;conv=>whnf)|(refine cd ?_;(conv=>arg 2;whnf);refine st ?_)|refine blockK_y (by rfl) ?_|(refine sw ?_;conv=>whnf))|(refine gm ?_;conv=>whnf)|(intro hc;(try dsimp+instances only[Dat,SDat,dflt,Ty.size,keepS,bkUpd,Gv.bk,backS,wayA,maxI,minI,negI]at hc);try simp only[LS]at hc))
   all_goals (try ((fail_if_success refine nl ?_);(try dsimp only[Dat,SDat,dflt,Ty.size,keepS,bkUpd,Gv.bk,backS,wayA,maxI,minI,negI]);(try simp only[LS]);first|done|exact dsc|((try simp only[allP,lo,hi,room,true_and,and_true,implies_true]);(repeat' (first|refine an ?_ ?_|((with_reducible refine preA_t ?_ ?_);rotate_left;exact sameP_t)|intro hv))<;>(try omega))))
   all_goals (try (change retA _ _ _ _ _;conv=>whnf))
   repeat' (first|refine an ?_ ?_|((try refine gm ?_);first|((with_reducible show Kz _);(try dsimp+instances only);(with_reducible refine kz _ ?_);clear kz Kz)|refine st ?_|(refine sr ?_;intro Kz kz;conv=>whnf)|(refine cd ?_;(conv=>arg 2;whnf);refine st ?_)|refine blockK_y (by rfl) ?_|(refine sw ?_;conv=>whnf))|(refine gm ?_;conv=>whnf)|(intro hc;(try dsimp+instances only[Dat,SDat,dflt,Ty.size,keepS,bkUpd,Gv.bk,backS,wayA,maxI,minI,negI]at hc);try simp only[LS]at hc))
   all_goals (try ((fail_if_success refine nl ?_);(try dsimp only[Dat,SDat,dflt,Ty.size,keepS,bkUpd,Gv.bk,backS,wayA,maxI,minI,negI]);(try simp only[LS]);first|done|exact dsc|((try simp only[allP,lo,hi,room,true_and,and_true,implies_true]);(repeat' (first|refine an ?_ ?_|((with_reducible refine preA_t ?_ ?_);rotate_left;exact sameP_t)|intro hv))<;>(try omega))))
 · conv=>(arg 2;whnf)
   repeat' (first|refine an ?_ ?_|((try refine gm ?_);first|((with_reducible show Kz _);(try dsimp+instances only);(with_reducible refine kz _ ?_);clear kz Kz)|refine st ?_|(refine sr ?_;intro Kz kz;conv=>whnf)|(refine cd ?_;(conv=>arg 2;whnf);refine st ?_)|refine blockK_y (by rfl) ?_|(refine sw ?_;conv=>whnf))|(refine gm ?_;conv=>whnf)|(intro hc;(try dsimp+instances only[Dat,SDat,dflt,Ty.size,keepS,bkUpd,Gv.bk,backS,wayA,maxI,minI,negI]at hc);try simp only[LS]at hc))
   all_goals (try ((fail_if_success refine nl ?_);(try dsimp only[Dat,SDat,dflt,Ty.size,keepS,bkUpd,Gv.bk,backS,wayA,maxI,minI,negI]);(try simp only[LS]);first|done|exact dsc|((try simp only[allP,lo,hi,room,true_and,and_true,implies_true]);(repeat' (first|refine an ?_ ?_|((with_reducible refine preA_t ?_ ?_);rotate_left;exact sameP_t)|intro hv))<;>(try omega))))
   all_goals (try (change retA _ _ _ _ _;conv=>whnf))
   repeat' (first|refine an ?_ ?_|((try refine gm ?_);first|((with_reducible show Kz _);(try dsimp+instances only);(with_reducible refine kz _ ?_);clear kz Kz)|refine st ?_|(refine sr ?_;intro Kz kz;conv=>whnf)|(refine cd ?_;(conv=>arg 2;whnf);refine st ?_)|refine blockK_y (by rfl) ?_|(refine sw ?_;conv=>whnf))|(refine gm ?_;conv=>whnf)|(intro hc;(try dsimp+instances only[Dat,SDat,dflt,Ty.size,keepS,bkUpd,Gv.bk,backS,wayA,maxI,minI,negI]at hc);try simp only[LS]at hc))
   all_goals (try ((fail_if_success refine nl ?_);(try dsimp only[Dat,SDat,dflt,Ty.size,keepS,bkUpd,Gv.bk,backS,wayA,maxI,minI,negI]);(try simp only[LS]);first|done|exact dsc|((try simp only[allP,lo,hi,room,true_and,and_true,implies_true]);(repeat' (first|refine an ?_ ?_|((with_reducible refine preA_t ?_ ?_);rotate_left;exact sameP_t)|intro hv))<;>(try omega))))
   all_goals (first|assumption|exact h2 (by assumption))
@[reducible] def MW:Type:=List (Int × Bool) × List Int
def pushF (s:MW) (i:Int):MW:=if (@mget (Dat tInt) (Dat .bool) (instDecidableEqDat tInt) s.1 i).getD false=true then s else (@mput (Dat tInt) (Dat .bool) (instDecidableEqDat tInt) s.1 i true,s.2++[i])
def pushL (s:MW) (l:List Int):MW:=l.foldl pushF s
def kidsAt (gs:List Gate) (i:Int):List Int:=(gs.getD i.toNat ((0,0,[],()):Gate)).2.2.1
def stepF (gs:List Gate):Nat→MW→MW
 |0,s=>s
 |n+1,(m,[])=>(m,[])
 |n+1,(m,i::w)=>stepF gs n (pushL (m,w) (kidsAt gs i))
structure MWok (gs:List Gate) (s:MW):Prop where
 nd:s.2.Nodup
 rng:∀ i∈s.2,0≤i∧i<gs.length
 mkd:∀ i∈s.2,@mget (Dat tInt) (Dat .bool) (instDecidableEqDat tInt) s.1 i=some true
theorem nodup_range:∀ {n:Nat} {l:List Nat},l.Nodup→(∀ k∈l,k<n)→l.length≤n
 |0,l,_,hr=>by
  cases l with
  |nil=>simp
  |cons a r=>have:=hr a List.mem_cons_self;omega
 |n+1,l,h,hr=>by
  have h1:=nodup_range (n:=n) (h.erase n) (fun k hk=>by
   have:=(h.mem_erase_iff).1 hk
   have:=hr k this.2
   omega)
  have h2:l.length≤(l.erase n).length+1:=by
   by_cases hm:n∈l
   · rw [List.length_erase_of_mem hm];omega
   · rw [List.erase_of_not_mem hm];omega
  omega
theorem nodup_len {l:List Int} {n:Nat} (h:l.Nodup) (hr:∀ i∈l,0≤i∧i<n):l.length≤n:=by
 have h1:(l.map Int.toNat).Nodup:=by
  rw [List.nodup_iff_pairwise_ne] at h ⊢
  rw [List.pairwise_map]
  exact h.imp_of_mem fun {a b} ha hb hne e=>hne (by have:=hr a ha;have:=hr b hb;omega)
 have h3:=nodup_range h1 (n:=n) (fun k hk=>by
  obtain ⟨i,hi,rfl⟩:=List.mem_map.1 hk
  have:=hr i hi;omega)
 simpa using h3
theorem MWok.len {gs:List Gate} {s:MW} (h:MWok gs s):s.2.length≤gs.length:=nodup_len h.nd h.rng
theorem MWok.push {gs:List Gate} {s:MW} (h:MWok gs s) {i:Int} (hi:0≤i∧i<gs.length):MWok gs (pushF s i):=by
 unfold pushF
 split
 · exact h
 · rename_i hm
   have hni:i ∉ s.2:=fun hm'=>by rw [h.mkd i hm'] at hm;exact hm rfl
   refine ⟨?_,fun k hk=>?_,fun k hk=>?_⟩
   · rw [List.nodup_append]
     exact ⟨h.nd,by simp,fun a ha b hb e=>hni (by simp at hb;rw [← hb,← e];exact ha)⟩
   · rcases List.mem_append.1 hk with hk|hk
     · exact h.rng k hk
     · simp at hk;rw [hk];exact hi
   · rw [mget_mput]
     split
     · rfl
     · rename_i hne
       rcases List.mem_append.1 hk with hk|hk
       · exact h.mkd k hk
       · simp at hk;exact (hne hk.symm).elim
theorem MWok.pushL {gs:List Gate}:∀ {l:List Int} {s:MW},MWok gs s→(∀ i∈l,0≤i∧i<gs.length)→MWok gs (pushL s l)
 |[],_,h,_=>h
 |a::l,s,h,hl=>MWok.pushL (l:=l) (h.push (hl a List.mem_cons_self)) (fun i hi=>hl i (List.mem_cons_of_mem _ hi))
theorem MWok.tail {gs:List Gate} {m:List (Int × Bool)} {i:Int} {w:List Int} (h:MWok gs (m,i::w)):MWok gs (m,w):=
 ⟨(List.nodup_cons.1 h.nd).2,fun k hk=>h.rng k (List.mem_cons_of_mem _ hk),fun k hk=>h.mkd k (List.mem_cons_of_mem _ hk)⟩
theorem pushL_snoc (s:MW) (l:List Int) (k:Int):pushL s (l++[k])=pushF (pushL s l) k:=by simp [pushL]
theorem pushL_step {s:MW} {l:List Int} {k:Nat} (h:k<l.length):pushF (pushL s (l.take k)) (List.getD l k 0)=pushL s (l.take (k+1)):=by
 rw [List.take_succ_eq_append_getElem h,pushL_snoc,getD_ok 0 h]
theorem kidsAt_rng {gs:List Gate} (h:ValidC gs) {i:Int} (hi:0≤i∧i<gs.length):∀ k∈kidsAt gs i,0≤k∧k<gs.length:=fun k hk=>by
 have:=kid_lt h (k:=i.toNat) (by omega) hk
 omega
theorem stepF_done {gs:List Gate} {m:List (Int × Bool)} {w:List Int} {n:Int} (hc:¬ (0<n∧0<(w.length:Int))):stepF gs n.toNat (m,w)=(m,w):=by
 by_cases h0:0<n
 · have:w=[]:=List.eq_nil_of_length_eq_zero (by omega)
   rw [this,show n.toNat=(n.toNat - 1)+1 by omega,stepF]
 · rw [show n.toNat=0 by omega,stepF]
@[reducible] noncomputable def S_z83:Spec:={ ins:=(.cons (.box (.cons (.d (.sl tGate)) (.cons (.spare tInt) (.cons (.map tInt .bool) (.cons (.spare tInt) .nil))))) (.cons (.d tInt) .nil)),pre:=(fun x=>(fun s i=>s.2.2.2.1.length≤1000000) x.1 x.2.1),alts:=[{ outs:= .nil,res:=(fun x=>(fun s i=>(())) x.1 x.2.1),upd:=(fun x=>(fun s i=>((s.1,s.2.1,(pushF (s.2.2.1,s.2.2.2.1) i).1,(pushF (s.2.2.1,s.2.2.2.1) i).2,()),i,())) x.1 x.2.1)}]}
noncomputable def c_z83:Cf:=(cf_z83 (Fl []))
theorem g_z83:∀ x,S_z83.pre x→shOK S_z83.ins x→fnGoal c_z83 fn_z83 S_z83 x:=by
 rintro ⟨⟨gs,roots,m,w,⟨⟩⟩,i,⟨⟩⟩ hpre hok
 try dsimp only [Dat,SDat,dflt,Ty.size,keepS,bkUpd,Gv.bk,backS,wayA,maxI,minI,negI] at hpre
 have hln:=shLn_of _ hok;replace hok:=Hd.mk hok;try simp only [shLn,datLn,inRng,lo,hi,maxLen,true_and,and_true] at hln
 first|refine fn_goal (w_head ?_)
 intro Kz kz;(conv=>whnf);(try dsimp+instances only);refine kz _ ?_;clear kz Kz;(conv=>(arg 2;whnf))
 repeat' (first|refine an ?_ ?_|((try refine gm ?_);first|((with_reducible show Kz _);(try dsimp+instances only);(with_reducible refine kz _ ?_);clear kz Kz)|refine st ?_|(refine sr ?_;intro Kz kz;conv=>whnf)|(refine cd ?_;(conv=>arg 2;whnf);refine st ?_)|refine blockK_y (by rfl) ?_|(refine sw ?_;conv=>whnf))|(refine gm ?_;conv=>whnf)|(intro hc;(try dsimp+instances only[Dat,SDat,dflt,Ty.size,keepS,bkUpd,Gv.bk,backS,wayA,maxI,minI,negI]at hc);try simp only[LS]at hc))
 all_goals (try ((fail_if_success refine nl ?_);(try dsimp only[Dat,SDat,dflt,Ty.size,keepS,bkUpd,Gv.bk,backS,wayA,maxI,minI,negI]);(try simp only[LS]);first|done|exact dsc|((try simp only[allP,lo,hi,room,true_and,and_true,implies_true]);(repeat' (first|refine an ?_ ?_|((with_reducible refine preA_t ?_ ?_);rotate_left;exact sameP_t)|intro hv))<;>(try omega))))
 · rw [pushF,if_neg (by dsimp only;rw [hc];exact Bool.false_ne_true)]
 · rw [pushF,if_neg (by dsimp only;rw [hc];exact Bool.false_ne_true)]
 · rw [pushF,if_pos (by simpa using hc)]
 · rw [pushF,if_pos (by simpa using hc)]
theorem ok_z83:SpecOK SP glob fi_z83 S_z83:=mk_ok (c:=c_z83) (tab_ok _) mix_ok wf_z83 (by decide) .nil (fun x hx=>Nat.zero_lt_one) g_z83
@[reducible] noncomputable def S_z79:Spec:={ ins:=(.cons (.box (.cons (.d (.sl tGate)) (.cons (.spare tInt) (.cons (.map tInt .bool) (.cons (.spare tInt) .nil))))) (.cons (.d tInt) .nil)),pre:=(fun x=>(fun s r=>s.2.1.length<1000000∧s.2.2.2.1.length≤1000000) x.1 x.2.1),alts:=[{ outs:=(.cons (.d tInt) .nil),res:=(fun x=>(fun s r=>(if 0≤r∧r<s.1.length then 0 else 1,())) x.1 x.2.1),upd:=(fun x=>(fun s r=>((s.1,if 0≤r∧r<s.1.length then s.2.1++[r] else s.2.1,if 0≤r∧r<s.1.length then (pushF (s.2.2.1,s.2.2.2.1) r).1 else s.2.2.1,if 0≤r∧r<s.1.length then (pushF (s.2.2.1,s.2.2.2.1) r).2 else s.2.2.2.1,()),r,())) x.1 x.2.1)}]}
noncomputable def c_z79:Cf:=(cf_z79 (Fl [(fi_z83,S_z83)]))
theorem g_z79:∀ x,S_z79.pre x→shOK S_z79.ins x→fnGoal c_z79 fn_z79 S_z79 x:=by
 rintro ⟨⟨gs,roots,m,w,⟨⟩⟩,r,⟨⟩⟩ hpre hok
 try dsimp only [Dat,SDat,dflt,Ty.size,keepS,bkUpd,Gv.bk,backS,wayA,maxI,minI,negI] at hpre
 have hln:=shLn_of _ hok;replace hok:=Hd.mk hok;try simp only [shLn,datLn,inRng,lo,hi,maxLen,true_and,and_true] at hln
 first|refine fn_goal (w_head ?_)
 intro Kz kz;(conv=>whnf);(try dsimp+instances only);refine kz _ ?_;clear kz Kz;(conv=>(arg 2;whnf))
 repeat' (first|refine an ?_ ?_|((try refine gm ?_);first|((with_reducible show Kz _);(try dsimp+instances only);(with_reducible refine kz _ ?_);clear kz Kz)|refine st ?_|(refine sr ?_;intro Kz kz;conv=>whnf)|(refine cd ?_;(conv=>arg 2;whnf);refine st ?_)|refine blockK_y (by rfl) ?_|(refine sw ?_;conv=>whnf))|(refine gm ?_;conv=>whnf)|(intro hc;(try dsimp+instances only[Dat,SDat,dflt,Ty.size,keepS,bkUpd,Gv.bk,backS,wayA,maxI,minI,negI]at hc);try simp only[LS]at hc))
 all_goals (try ((fail_if_success refine nl ?_);(try dsimp only[Dat,SDat,dflt,Ty.size,keepS,bkUpd,Gv.bk,backS,wayA,maxI,minI,negI]);(try simp only[LS]);first|done|exact dsc|((try simp only[allP,lo,hi,room,true_and,and_true,implies_true]);(repeat' (first|refine an ?_ ?_|((with_reducible refine preA_t ?_ ?_);rotate_left;exact sameP_t)|intro hv))<;>(try omega))))
 · rw [if_neg (by omega)]
 · rw [if_neg (by omega)]
 · rw [if_neg (by omega)]
 · rw [if_pos (by omega)]
 · rw [if_pos (by omega)]
 · rw [if_pos (by omega)]
theorem ok_z79:SpecOK SP glob fi_z79 S_z79:=mk_ok (c:=c_z79) (tab_ok _) mix_ok wf_z79 (by decide) (.cons ok_z83 .nil) (fun x hx=>Nat.zero_lt_one) g_z79
@[reducible] noncomputable def S_z82:Spec:={ ins:=(.cons (.box (.cons (.d (.sl tGate)) (.cons (.spare tInt) (.cons (.map tInt .bool) (.cons (.spare tInt) .nil))))) (.cons (.d tInt) .nil)),pre:=(fun x=>(fun s n=>ValidC s.1∧SmallG s.1∧MWok s.1 (s.2.2.1,s.2.2.2.1)) x.1 x.2.1),alts:=[{ outs:=(.cons (.d .bool) .nil),res:=(fun x=>(fun s n=>(decide ((stepF s.1 n.toNat (s.2.2.1,s.2.2.2.1)).2=[]),())) x.1 x.2.1),upd:=(fun x=>(fun s n=>((s.1,s.2.1,(stepF s.1 n.toNat (s.2.2.1,s.2.2.2.1)).1,(stepF s.1 n.toNat (s.2.2.1,s.2.2.2.1)).2,()),n,())) x.1 x.2.1)}]}
noncomputable def c_z82:Cf:=(cf_z82 (Fl [(fi_z83,S_z83)]))
theorem g_z82:∀ x,S_z82.pre x→shOK S_z82.ins x→fnGoal c_z82 fn_z82 S_z82 x:=by
 rintro ⟨⟨gs,roots,m,w,⟨⟩⟩,n,⟨⟩⟩ hpre hok
 try dsimp only [Dat,SDat,dflt,Ty.size,keepS,bkUpd,Gv.bk,backS,wayA,maxI,minI,negI] at hpre
 have hln:=shLn_of _ hok;replace hok:=Hd.mk hok;try simp only [shLn,datLn,inRng,lo,hi,maxLen,true_and,and_true] at hln
 have hV:=hpre.1
 have hl:=hV.1
 have hS:=hpre.2.1
 first|refine fn_goal (w_head ?_)
 intro Kz kz;(conv=>whnf);(try dsimp+instances only);refine kz _ ?_;clear kz Kz;(conv=>(arg 2;whnf))
 repeat' (first|refine an ?_ ?_|((try refine gm ?_);first|((with_reducible show Kz _);(try dsimp+instances only);(with_reducible refine kz _ ?_);clear kz Kz)|refine st ?_|(refine sr ?_;intro Kz kz;conv=>whnf)|(refine cd ?_;(conv=>arg 2;whnf);refine st ?_)|refine blockK_y (by rfl) ?_|(refine sw ?_;conv=>whnf))|(refine gm ?_;conv=>whnf)|(intro hc;(try dsimp+instances only[Dat,SDat,dflt,Ty.size,keepS,bkUpd,Gv.bk,backS,wayA,maxI,minI,negI]at hc);try simp only[LS]at hc))
 all_goals (try ((fail_if_success refine nl ?_);(try dsimp only[Dat,SDat,dflt,Ty.size,keepS,bkUpd,Gv.bk,backS,wayA,maxI,minI,negI]);(try simp only[LS]);first|done|exact dsc|((try simp only[allP,lo,hi,room,true_and,and_true,implies_true]);(repeat' (first|refine an ?_ ?_|((with_reducible refine preA_t ?_ ?_);rotate_left;exact sameP_t)|intro hv))<;>(try omega))))
 refine w_loop [(1, .d tInt)] [(0, .cons (.d (.sl tGate)) (.cons (.spare tInt) (.cons (.map tInt .bool) (.cons (.spare tInt) .nil))))] (fun y=>y.2.1.1=gs∧y.2.1.2.1=roots∧MWok gs (y.2.1.2.2.1,y.2.1.2.2.2.1)∧stepF gs y.1.1.toNat (y.2.1.2.2.1,y.2.1.2.2.2.1)=stepF gs n.toNat (m,w)∧y.1.1≤n) (fun y=>y.1.1.toNat) ?_
 conv=>whnf
 refine And.intro ?_ ?_
 · exact ⟨rfl,rfl,hpre.2.2,rfl,Int.le_refl _⟩
 rintro ⟨⟨n1,⟨⟩⟩,⟨gs1,roots1,m1,w1,⟨⟩⟩,⟨⟩⟩ ⟨h1,h2,hM,hE,hle⟩
 dsimp only [SDat,Dat] at h1 h2 hM hE hle
 subst h1 h2
 have hwl:w1.length≤gs1.length:=hM.len
 have hw0:0<w1.length→w1=w1.getD 0 0::w1.tail:=fun h=>by cases w1 with
  |nil=>simp at h
  |cons a r=>rfl
 have hz:Int.toNat 0=0:=rfl
 have hr0:=fun h:0<w1.length=>hM.rng (w1.getD 0 0) (getD_mem h)
 repeat' (first|refine an ?_ ?_|((try refine gm ?_);first|((with_reducible show Kz _);(try dsimp+instances only);(with_reducible refine kz _ ?_);clear kz Kz)|refine st ?_|(refine sr ?_;intro Kz kz;conv=>whnf)|(refine cd ?_;(conv=>arg 2;whnf);refine st ?_)|refine blockK_y (by rfl) ?_|(refine sw ?_;conv=>whnf))|(refine gm ?_;conv=>whnf)|(intro hc;(try dsimp+instances only[Dat,SDat,dflt,Ty.size,keepS,bkUpd,Gv.bk,backS,wayA,maxI,minI,negI]at hc);try simp only[LS]at hc))
 all_goals (try ((fail_if_success refine nl ?_);(try dsimp only[Dat,SDat,dflt,Ty.size,keepS,bkUpd,Gv.bk,backS,wayA,maxI,minI,negI]);(try simp only[LS]);first|done|exact dsc|((try simp only[allP,lo,hi,room,true_and,and_true,implies_true]);(repeat' (first|refine an ?_ ?_|((with_reducible refine preA_t ?_ ?_);rotate_left;exact sameP_t)|intro hv))<;>(try omega))))
 all_goals (try ((fail_if_success refine nl ?_);have:=hr0 (by omega);omega))
 · have hwp:0<w1.length:=by omega
   have h0:=hr0 hwp
   have hk:=kidsAt_rng hV h0
   have hS0:(kidsAt gs1 (w1.getD 0 0)).length≤1000000:=hS _ (getD_mem (by omega))
   refine w_loop [(54, .d tInt)] [(0, .cons (.d (.sl tGate)) (.cons (.spare tInt) (.cons (.map tInt .bool) (.cons (.spare tInt) .nil))))] (fun y=>∃ k:Nat,y.1.1=(k:Int)∧k≤(kidsAt gs1 (w1.getD 0 0)).length∧y.2.1=(gs1,roots1,(pushL (m1,w1.tail) ((kidsAt gs1 (w1.getD 0 0)).take k)).1,(pushL (m1,w1.tail) ((kidsAt gs1 (w1.getD 0 0)).take k)).2,())) (fun y=>(kidsAt gs1 (w1.getD 0 0)).length - y.1.1.toNat) ?_
   conv=>whnf
   refine And.intro ?_ ?_
   · refine ⟨0,rfl,Nat.zero_le _,?_⟩
     have:(List.take (Int.toNat (List.length w1:Int)) w1).drop (Int.toNat 1)=w1.tail:=by
      rw [Int.toNat_natCast,List.take_of_length_le (Nat.le_refl _)]
      cases w1<;>rfl
     simp only [List.take_zero,pushL,List.foldl_nil]
     rw [← this]
   rintro ⟨⟨_,⟨⟩⟩,⟨gs2,roots2,m2,w2,⟨⟩⟩,⟨⟩⟩ ⟨k,rfl,hk2,hE2⟩
   dsimp only at hE2
   simp only [Prod.mk.injEq,and_true] at hE2
   obtain ⟨rfl,rfl,rfl,rfl⟩:=hE2
   have hM':MWok gs2 (m1,w1.tail):=(hw0 hwp ▸ hM).tail
   have hMk:=hM'.pushL (l:=(kidsAt gs2 (w1.getD 0 0)).take k) (fun i hi=>hk i (List.mem_of_mem_take hi))
   have hMl:=hMk.len
   have hz:Int.toNat 0=0:=rfl
   repeat' (first|refine an ?_ ?_|((try refine gm ?_);first|((with_reducible show Kz _);(try dsimp+instances only);(with_reducible refine kz _ ?_);clear kz Kz)|refine st ?_|(refine sr ?_;intro Kz kz;conv=>whnf)|(refine cd ?_;(conv=>arg 2;whnf);refine st ?_)|refine blockK_y (by rfl) ?_|(refine sw ?_;conv=>whnf))|(refine gm ?_;conv=>whnf)|(intro hc;(try dsimp+instances only[Dat,SDat,dflt,Ty.size,keepS,bkUpd,Gv.bk,backS,wayA,maxI,minI,negI]at hc);try simp only[LS]at hc))
   all_goals (try ((fail_if_success refine nl ?_);(try dsimp only[Dat,SDat,dflt,Ty.size,keepS,bkUpd,Gv.bk,backS,wayA,maxI,minI,negI]);(try simp only[LS]);first|done|exact dsc|((try simp only[allP,lo,hi,room,true_and,and_true,implies_true]);(repeat' (first|refine an ?_ ?_|((with_reducible refine preA_t ?_ ?_);rotate_left;exact sameP_t)|intro hv))<;>(try omega))))
   · refine ⟨k+1,by omega,by unfold kidsAt;omega,?_,?_⟩
     · rw [← pushL_step (by unfold kidsAt;omega)];rfl
     · rw [← pushL_step (by unfold kidsAt;omega)];rfl
   · have:k<(kidsAt gs2 (w1.getD 0 0)).length:=by unfold kidsAt;omega
     omega
   · have hk3:k=(kidsAt gs2 (w1.getD 0 0)).length:=by unfold kidsAt at hk2 ⊢;omega
     rw [← hE]
     have e:n1.toNat=(n1 - 1).toNat+1:=by omega
     rw [e]
     conv=>rhs;rw [hw0 hwp]
     rw [stepF,hk3,List.take_of_length_le (Nat.le_refl _)]
 all_goals have hfin:=stepF_done (gs:=gs1) (m:=m1) (w:=w1) (n:=n1) hc
 all_goals rw [hfin] at hE
 · rw [← hE,boolOf_eq];simp
 · rw [← hE]
 · rw [← hE]
theorem ok_z82:SpecOK SP glob fi_z82 S_z82:=mk_ok (c:=c_z82) (tab_ok _) mix_ok wf_z82 (by decide) (.cons ok_z83 .nil) (fun x hx=>Nat.zero_lt_one) g_z82
@[reducible] noncomputable def S_z81:Spec:={ ins:=(.cons (.d (.sl tInt)) (.cons (.box (.cons (.map tInt tInt) .nil)) .nil)),pre:=(fun x=>(fun l p=>l.length≤1000000) x.1 x.2.1),alts:=[{ outs:=(.cons (.d (.sl tInt)) .nil),res:=(fun x=>(fun l p=>(l.map (fun j=>(@mget (Dat tInt) (Dat tInt) (instDecidableEqDat tInt) p.1 j).getD 0),())) x.1 x.2.1)}],ro:=true}
noncomputable def c_z81:Cf:=(cf_z81 (Fl []))
theorem g_z81:∀ x,S_z81.pre x→shOK S_z81.ins x→fnGoal c_z81 fn_z81 S_z81 x:=by
 rintro ⟨l,⟨p,⟨⟩⟩,⟨⟩⟩ hpre hok
 try dsimp only [Dat,SDat,dflt,Ty.size,keepS,bkUpd,Gv.bk,backS,wayA,maxI,minI,negI] at hpre
 have hln:=shLn_of _ hok;replace hok:=Hd.mk hok;try simp only [shLn,datLn,inRng,lo,hi,maxLen,true_and,and_true] at hln
 first|refine fn_goal (w_head ?_)
 intro Kz kz;(conv=>whnf);(try dsimp+instances only);refine kz _ ?_;clear kz Kz;(conv=>(arg 2;whnf))
 repeat' (first|refine an ?_ ?_|((try refine gm ?_);first|((with_reducible show Kz _);(try dsimp+instances only);(with_reducible refine kz _ ?_);clear kz Kz)|refine st ?_|(refine sr ?_;intro Kz kz;conv=>whnf)|(refine cd ?_;(conv=>arg 2;whnf);refine st ?_)|refine blockK_y (by rfl) ?_|(refine sw ?_;conv=>whnf))|(refine gm ?_;conv=>whnf)|(intro hc;(try dsimp+instances only[Dat,SDat,dflt,Ty.size,keepS,bkUpd,Gv.bk,backS,wayA,maxI,minI,negI]at hc);try simp only[LS]at hc))
 all_goals (try ((fail_if_success refine nl ?_);(try dsimp only[Dat,SDat,dflt,Ty.size,keepS,bkUpd,Gv.bk,backS,wayA,maxI,minI,negI]);(try simp only[LS]);first|done|exact dsc|((try simp only[allP,lo,hi,room,true_and,and_true,implies_true]);(repeat' (first|refine an ?_ ?_|((with_reducible refine preA_t ?_ ?_);rotate_left;exact sameP_t)|intro hv))<;>(try omega))))
 refine w_loop [(9, .d tInt),(4, .spare tInt)] [] (fun y=>∃ k:Nat,y.1.1=(k:Int)∧k≤l.length∧y.1.2.1=(l.take k).map (fun j=>(@mget (Dat tInt) (Dat tInt) (instDecidableEqDat tInt) p j).getD 0)) (fun y=>l.length - y.1.1.toNat) ?_
 conv=>whnf
 refine And.intro ?_ ?_
 · exact ⟨0,rfl,Nat.zero_le _,rfl⟩
 rintro ⟨⟨_,_,⟨⟩⟩,⟨⟩⟩ ⟨k,rfl,hk,rfl⟩
 have htl:(l.take k).length≤k:=List.length_take_le _ _
 repeat' (first|refine an ?_ ?_|((try refine gm ?_);first|((with_reducible show Kz _);(try dsimp+instances only);(with_reducible refine kz _ ?_);clear kz Kz)|refine st ?_|(refine sr ?_;intro Kz kz;conv=>whnf)|(refine cd ?_;(conv=>arg 2;whnf);refine st ?_)|refine blockK_y (by rfl) ?_|(refine sw ?_;conv=>whnf))|(refine gm ?_;conv=>whnf)|(intro hc;(try dsimp+instances only[Dat,SDat,dflt,Ty.size,keepS,bkUpd,Gv.bk,backS,wayA,maxI,minI,negI]at hc);try simp only[LS]at hc))
 all_goals (try ((fail_if_success refine nl ?_);(try dsimp only[Dat,SDat,dflt,Ty.size,keepS,bkUpd,Gv.bk,backS,wayA,maxI,minI,negI]);(try simp only[LS]);first|done|exact dsc|((try simp only[allP,lo,hi,room,true_and,and_true,implies_true]);(repeat' (first|refine an ?_ ?_|((with_reducible refine preA_t ?_ ?_);rotate_left;exact sameP_t)|intro hv))<;>(try omega))))
 · exact ⟨k+1,by omega,by omega,map_take_step (d:=0) (by omega) rfl⟩
 · rw [List.take_of_length_le (by omega)]
theorem ok_z81:SpecOK SP glob fi_z81 S_z81:=mk_ok (c:=c_z81) (tab_ok _) mix_ok wf_z81 (by decide) .nil (fun x hx=>Nat.zero_lt_one) g_z81
@[reducible] noncomputable def S_z78:Spec:={ ins:=(.cons (.d tInt) (.cons (.d (.pt tCirc)) .nil)),pre:=(fun x=>(fun k c=>c.isSome=true) x.1 x.2.1),alts:=[{ outs:=(.cons (.d .bool) .nil),res:=(fun x=>(fun k c=>(decide (k<0∨((c.getD ([],())).1.length:Int)≤k),())) x.1 x.2.1)}]}
noncomputable def c_z78:Cf:=(cf_z78 (Fl []))
theorem g_z78:∀ x,S_z78.pre x→shOK S_z78.ins x→fnGoal c_z78 fn_z78 S_z78 x:=by
 rintro ⟨k,c,⟨⟩⟩ hpre hok
 try dsimp only [Dat,SDat,dflt,Ty.size,keepS,bkUpd,Gv.bk,backS,wayA,maxI,minI,negI] at hpre
 have hln:=shLn_of _ hok;replace hok:=Hd.mk hok;try simp only [shLn,datLn,inRng,lo,hi,maxLen,true_and,and_true] at hln
 obtain ⟨c,rfl⟩:=Option.isSome_iff_exists.1 hpre
 first|refine fn_goal (w_head ?_)
 intro Kz kz;(conv=>whnf);(try dsimp+instances only);refine kz _ ?_;clear kz Kz;(conv=>(arg 2;whnf))
 repeat' (first|refine an ?_ ?_|((try refine gm ?_);first|((with_reducible show Kz _);(try dsimp+instances only);(with_reducible refine kz _ ?_);clear kz Kz)|refine st ?_|(refine sr ?_;intro Kz kz;conv=>whnf)|(refine cd ?_;(conv=>arg 2;whnf);refine st ?_)|refine blockK_y (by rfl) ?_|(refine sw ?_;conv=>whnf))|(refine gm ?_;conv=>whnf)|(intro hc;(try dsimp+instances only[Dat,SDat,dflt,Ty.size,keepS,bkUpd,Gv.bk,backS,wayA,maxI,minI,negI]at hc);try simp only[LS]at hc))
 all_goals (try ((fail_if_success refine nl ?_);(try dsimp only[Dat,SDat,dflt,Ty.size,keepS,bkUpd,Gv.bk,backS,wayA,maxI,minI,negI]);(try simp only[LS]);first|done|exact dsc|((try simp only[allP,lo,hi,room,true_and,and_true,implies_true]);(repeat' (first|refine an ?_ ?_|((with_reducible refine preA_t ?_ ?_);rotate_left;exact sameP_t)|intro hv))<;>(try omega))))
theorem ok_z78:SpecOK SP glob fi_z78 S_z78:=mk_ok (c:=c_z78) (tab_ok _) mix_ok wf_z78 (by decide) .nil (fun x hx=>Nat.zero_lt_one) g_z78
@[reducible] noncomputable def S_idx_start_1:Spec:={ ins:=(.cons (.d (.sl tInt)) (.cons (.clos fi_z78 (.cons (.d (.pt tCirc)) .nil)) .nil)),pre:=(fun x=>(fun s c=>∀ k∈s,(fun (c:Option (List Gate × Unit) × Unit) _=>c.1.isSome=true) c k) x.1 x.2.1),alts:=[{ outs:=(.cons (.d tInt) .nil),res:=(fun x=>(fun s c=>(findI (fun k=>(fun (c:Option (List Gate × Unit) × Unit) (k:Int)=>decide (k<0∨((c.1.getD ([],())).1.length:Int)≤k)) c k) s,())) x.1 x.2.1)}]}
noncomputable def c_idx_start_1:Cf:=(cf_z121 (Fl [(fi_z78,S_z78)]))
theorem g_idx_start_1:∀ x,S_idx_start_1.pre x→shOK S_idx_start_1.ins x→fnGoal c_idx_start_1 fn_z121 S_idx_start_1 x:=by
 rintro ⟨s,⟨n,⟨⟩⟩,⟨⟩⟩ hpre hok
 try dsimp only [Dat,SDat,dflt,Ty.size,keepS,bkUpd,Gv.bk,backS,wayA,maxI,minI,negI] at hpre
 have hln:=shLn_of _ hok;replace hok:=Hd.mk hok;try simp only [shLn,datLn,inRng,lo,hi,maxLen,true_and,and_true] at hln
 first|refine fn_goal (w_head ?_)
 intro Kz kz;(conv=>whnf);(try dsimp+instances only);refine kz _ ?_;clear kz Kz;(conv=>(arg 2;whnf))
 repeat' (first|refine an ?_ ?_|((try refine gm ?_);first|((with_reducible show Kz _);(try dsimp+instances only);(with_reducible refine kz _ ?_);clear kz Kz)|refine st ?_|(refine sr ?_;intro Kz kz;conv=>whnf)|(refine cd ?_;(conv=>arg 2;whnf);refine st ?_)|refine blockK_y (by rfl) ?_|(refine sw ?_;conv=>whnf))|(refine gm ?_;conv=>whnf)|(intro hc;(try dsimp+instances only[Dat,SDat,dflt,Ty.size,keepS,bkUpd,Gv.bk,backS,wayA,maxI,minI,negI]at hc);try simp only[LS]at hc))
 all_goals (try ((fail_if_success refine nl ?_);(try dsimp only[Dat,SDat,dflt,Ty.size,keepS,bkUpd,Gv.bk,backS,wayA,maxI,minI,negI]);(try simp only[LS]);first|done|exact dsc|((try simp only[allP,lo,hi,room,true_and,and_true,implies_true]);(repeat' (first|refine an ?_ ?_|((with_reducible refine preA_t ?_ ?_);rotate_left;exact sameP_t)|intro hv))<;>(try omega))))
 refine w_loop [(8, .d tInt)] [] (fun y=>∃ k:Nat,y.1.1=(k:Int)∧k≤s.length∧∀ x∈s.take k,(fun (c:Option (List Gate × Unit) × Unit) (k:Int)=>decide (k<0∨((c.1.getD ([],())).1.length:Int)≤k)) ⟨n,⟨⟩⟩ x=false) (fun y=>s.length - y.1.1.toNat) ?_
 conv=>whnf
 refine And.intro ?_ ?_
 · exact ⟨0,by simp⟩
 rintro ⟨⟨_,⟨⟩⟩,⟨⟩⟩ ⟨k,rfl,hk,hj⟩
 repeat' (first|refine an ?_ ?_|((try refine gm ?_);first|((with_reducible show Kz _);(try dsimp+instances only);(with_reducible refine kz _ ?_);clear kz Kz)|refine st ?_|(refine sr ?_;intro Kz kz;conv=>whnf)|(refine cd ?_;(conv=>arg 2;whnf);refine st ?_)|refine blockK_y (by rfl) ?_|(refine sw ?_;conv=>whnf))|(refine gm ?_;conv=>whnf)|(intro hc;(try dsimp+instances only[Dat,SDat,dflt,Ty.size,keepS,bkUpd,Gv.bk,backS,wayA,maxI,minI,negI]at hc);try simp only[LS]at hc))
 all_goals (try ((fail_if_success refine nl ?_);(try dsimp only[Dat,SDat,dflt,Ty.size,keepS,bkUpd,Gv.bk,backS,wayA,maxI,minI,negI]);(try simp only[LS]);first|done|exact dsc|((try simp only[allP,lo,hi,room,true_and,and_true,implies_true]);(repeat' (first|refine an ?_ ?_|((with_reducible refine preA_t ?_ ?_);rotate_left;exact sameP_t)|intro hv))<;>(try omega))))
 · exact hpre _ (getD_mem (l:=s) (d:=0) (k:=k) (by omega))
 · exact (findI_hit (d:=0) hj (by omega) (by first|exact hc|(simpa using hc)|(simp at hc ⊢;grind))).symm
 · refine ⟨k+1,by omega,by omega,fun x hx=>?_⟩
   have hst:=all_step (p:=fun x=>(fun (c:Option (List Gate × Unit) × Unit) (k:Int)=>decide (k<0∨((c.1.getD ([],())).1.length:Int)≤k)) ⟨n,⟨⟩⟩ x=false) (d:=0) hj (by omega) (by first|exact hc|(simpa using hc)|(simp at hc ⊢;grind)) x hx
   first|exact hst|simpa using hst|(simp at hst ⊢;grind)
 · exact (findI_miss hj (by omega)).symm
theorem ok_idx_start_1:SpecOK SP glob fi_z121 S_idx_start_1:=mk_ok (c:=c_idx_start_1) (tab_ok _) mix_ok wf_z121 (by decide) (.cons ok_z78 .nil) (fun x hx=>Nat.zero_lt_one) g_idx_start_1
@[reducible] noncomputable def S_con_start_1:Spec:={ ins:=(.cons (.d (.sl tInt)) (.cons (.clos fi_z78 (.cons (.d (.pt tCirc)) .nil)) .nil)),pre:=(fun x=>(fun s c=>∀ k∈s,(fun (c:Option (List Gate × Unit) × Unit) _=>c.1.isSome=true) c k) x.1 x.2.1),alts:=[{ outs:=(.cons (.d .bool) .nil),res:=(fun x=>(fun s c=>(s.any (fun k=>(fun (c:Option (List Gate × Unit) × Unit) (k:Int)=>decide (k<0∨((c.1.getD ([],())).1.length:Int)≤k)) c k),())) x.1 x.2.1)}]}
noncomputable def c_con_start_1:Cf:=(cf_z117 (Fl [(fi_z121,S_idx_start_1)]))
theorem g_con_start_1:∀ x,S_con_start_1.pre x→shOK S_con_start_1.ins x→fnGoal c_con_start_1 fn_z117 S_con_start_1 x:=by
 rintro ⟨s,⟨n,⟨⟩⟩,⟨⟩⟩ hpre hok
 try dsimp only [Dat,SDat,dflt,Ty.size,keepS,bkUpd,Gv.bk,backS,wayA,maxI,minI,negI] at hpre
 have hln:=shLn_of _ hok;replace hok:=Hd.mk hok;try simp only [shLn,datLn,inRng,lo,hi,maxLen,true_and,and_true] at hln
 first|refine fn_goal (w_head ?_)
 intro Kz kz;(conv=>whnf);(try dsimp+instances only);refine kz _ ?_;clear kz Kz;(conv=>(arg 2;whnf))
 repeat' (first|refine an ?_ ?_|((try refine gm ?_);first|((with_reducible show Kz _);(try dsimp+instances only);(with_reducible refine kz _ ?_);clear kz Kz)|refine st ?_|(refine sr ?_;intro Kz kz;conv=>whnf)|(refine cd ?_;(conv=>arg 2;whnf);refine st ?_)|refine blockK_y (by rfl) ?_|(refine sw ?_;conv=>whnf))|(refine gm ?_;conv=>whnf)|(intro hc;(try dsimp+instances only[Dat,SDat,dflt,Ty.size,keepS,bkUpd,Gv.bk,backS,wayA,maxI,minI,negI]at hc);try simp only[LS]at hc))
 all_goals (try ((fail_if_success refine nl ?_);(try dsimp only[Dat,SDat,dflt,Ty.size,keepS,bkUpd,Gv.bk,backS,wayA,maxI,minI,negI]);(try simp only[LS]);first|done|exact dsc|((try simp only[allP,lo,hi,room,true_and,and_true,implies_true]);(repeat' (first|refine an ?_ ?_|((with_reducible refine preA_t ?_ ?_);rotate_left;exact sameP_t)|intro hv))<;>(try omega))))
 · exact hpre _ (by assumption)
 · rw [boolOf_eq,Bool.eq_iff_iff,decide_eq_true_eq];exact findI_ge
theorem ok_con_start_1:SpecOK SP glob fi_z117 S_con_start_1:=mk_ok (c:=c_con_start_1) (tab_ok _) mix_ok wf_z117 (by decide) (.cons ok_idx_start_1 .nil) (fun x hx=>Nat.zero_lt_one) g_con_start_1
@[reducible] noncomputable def S_z77:Spec:={ ins:=(.cons (.d tCirc) (.cons (.d (.sl tInt)) .nil)),pre:=(fun x=>(fun c roots=>SmallG c.1∧roots.length≤1000000) x.1 x.2.1),sel:=(fun x=>(fun c roots=>selB (boolOf (RightP c.1 roots))) x.1 x.2.1),alts:=[{ outs:=(.cons (.nilp) (.cons (.d tInt) .nil)),res:=(fun x=>(fun c roots=>((),1,())) x.1 x.2.1)},{ outs:=(.cons (.box (.cons (.d (.sl tGate)) (.cons (.spare tInt) (.cons (.map tInt .bool) (.cons (.spare tInt) .nil))))) (.cons (.d tInt) .nil)),res:=(fun x=>(fun c roots=>((c.1,roots,(pushL ([],[]) roots).1,(pushL ([],[]) roots).2,()),0,())) x.1 x.2.1)}]}
noncomputable def c_z77:Cf:=(cf_z77 (Fl [(fi_z13,S_z13),(fi_z117,S_con_start_1),(fi_z111,S_z111),(fi_z110,S_z110),(fi_z83,S_z83)]))
theorem g_z77:∀ x,S_z77.pre x→shOK S_z77.ins x→fnGoal c_z77 fn_z77 S_z77 x:=by
 rintro ⟨⟨gs,⟨⟩⟩,roots,⟨⟩⟩ hpre hok
 try dsimp only [Dat,SDat,dflt,Ty.size,keepS,bkUpd,Gv.bk,backS,wayA,maxI,minI,negI] at hpre
 have hln:=shLn_of _ hok;replace hok:=Hd.mk hok;try simp only [shLn,datLn,inRng,lo,hi,maxLen,true_and,and_true] at hln
 have ha:(roots.any fun k=>decide (k<0∨(gs.length:Int)≤k))=false↔∀ r∈roots,0≤r∧r<gs.length:=by
  simp
 first|refine fn_goal (w_head ?_)
 intro Kz kz;(conv=>whnf);(try dsimp+instances only);refine kz _ ?_;clear kz Kz;(conv=>(arg 2;whnf))
 repeat' (first|refine an ?_ ?_|((try refine gm ?_);first|((with_reducible show Kz _);(try dsimp+instances only);(with_reducible refine kz _ ?_);clear kz Kz)|refine st ?_|(refine sr ?_;intro Kz kz;conv=>whnf)|(refine cd ?_;(conv=>arg 2;whnf);refine st ?_)|refine blockK_y (by rfl) ?_|(refine sw ?_;conv=>whnf))|(refine gm ?_;conv=>whnf)|(intro hc;(try dsimp+instances only[Dat,SDat,dflt,Ty.size,keepS,bkUpd,Gv.bk,backS,wayA,maxI,minI,negI]at hc);try simp only[LS]at hc))
 all_goals (try ((fail_if_success refine nl ?_);(try dsimp only[Dat,SDat,dflt,Ty.size,keepS,bkUpd,Gv.bk,backS,wayA,maxI,minI,negI]);(try simp only[LS]);first|done|exact dsc|((try simp only[allP,lo,hi,room,true_and,and_true,implies_true]);(repeat' (first|refine an ?_ ?_|((with_reducible refine preA_t ?_ ?_);rotate_left;exact sameP_t)|intro hv))<;>(try omega))))
 · exact hpre.1 _ (by assumption)
 · rfl
 · refine ⟨0,_,rfl,?_⟩
   conv=>whnf
   repeat' (first|refine an ?_ ?_|((try refine gm ?_);first|((with_reducible show Kz _);(try dsimp+instances only);(with_reducible refine kz _ ?_);clear kz Kz)|refine st ?_|(refine sr ?_;intro Kz kz;conv=>whnf)|(refine cd ?_;(conv=>arg 2;whnf);refine st ?_)|refine blockK_y (by rfl) ?_|(refine sw ?_;conv=>whnf))|(refine gm ?_;conv=>whnf)|(intro hc;(try dsimp+instances only[Dat,SDat,dflt,Ty.size,keepS,bkUpd,Gv.bk,backS,wayA,maxI,minI,negI]at hc);try simp only[LS]at hc))
   all_goals (try ((fail_if_success refine nl ?_);(try dsimp only[Dat,SDat,dflt,Ty.size,keepS,bkUpd,Gv.bk,backS,wayA,maxI,minI,negI]);(try simp only[LS]);first|done|exact dsc|((try simp only[allP,lo,hi,room,true_and,and_true,implies_true]);(repeat' (first|refine an ?_ ?_|((with_reducible refine preA_t ?_ ?_);rotate_left;exact sameP_t)|intro hv))<;>(try omega))))
   rcases hc with hc|hc
   · exact hc hv.2
   · exact Bool.noConfusion ((ha.2 hv.1).symm.trans hc)
 · have hV:ValidC gs:=Classical.byContradiction fun h=>hc (.inl h)
   have:=hV.1;omega
 · have hV:ValidC gs:=Classical.byContradiction fun h=>hc (.inl h)
   have hR:RightP gs roots:=⟨ha.1 (Bool.eq_false_iff.2 fun h=>hc (.inr h)),hV⟩
   have hl:=hV.1
   refine w_loop [(28, .d tInt)] [(3, .cons (.d (.sl tGate)) (.cons (.spare tInt) (.cons (.map tInt .bool) (.cons (.spare tInt) .nil))))] (fun y=>∃ k:Nat,y.1.1=(k:Int)∧k≤roots.length∧y.2.1=(gs,roots,(pushL ([],[]) (roots.take k)).1,(pushL ([],[]) (roots.take k)).2,())) (fun y=>roots.length - y.1.1.toNat) ?_
   conv=>whnf
   refine And.intro ?_ ?_
   · exact ⟨0,rfl,Nat.zero_le _,rfl⟩
   rintro ⟨⟨_,⟨⟩⟩,⟨gs2,roots2,m2,w2,⟨⟩⟩,⟨⟩⟩ ⟨k,rfl,hk,hE⟩
   dsimp only at hE
   simp only [Prod.mk.injEq,and_true] at hE
   obtain ⟨rfl,rfl,rfl,rfl⟩:=hE
   have hM:=(MWok.mk (gs:=gs2) (s:=([],[])) List.nodup_nil (fun i h=>by cases h) (fun i h=>by cases h)).pushL (l:=roots2.take k) (fun i hi=>hR.1 i (List.mem_of_mem_take hi))
   have hMl:=hM.len
   repeat' (first|refine an ?_ ?_|((try refine gm ?_);first|((with_reducible show Kz _);(try dsimp+instances only);(with_reducible refine kz _ ?_);clear kz Kz)|refine st ?_|(refine sr ?_;intro Kz kz;conv=>whnf)|(refine cd ?_;(conv=>arg 2;whnf);refine st ?_)|refine blockK_y (by rfl) ?_|(refine sw ?_;conv=>whnf))|(refine gm ?_;conv=>whnf)|(intro hc;(try dsimp+instances only[Dat,SDat,dflt,Ty.size,keepS,bkUpd,Gv.bk,backS,wayA,maxI,minI,negI]at hc);try simp only[LS]at hc))
   all_goals (try ((fail_if_success refine nl ?_);(try dsimp only[Dat,SDat,dflt,Ty.size,keepS,bkUpd,Gv.bk,backS,wayA,maxI,minI,negI]);(try simp only[LS]);first|done|exact dsc|((try simp only[allP,lo,hi,room,true_and,and_true,implies_true]);(repeat' (first|refine an ?_ ?_|((with_reducible refine preA_t ?_ ?_);rotate_left;exact sameP_t)|intro hv))<;>(try omega))))
   · refine ⟨k+1,by omega,by omega,?_,?_⟩
     · rw [← pushL_step (by omega)]
     · rw [← pushL_step (by omega)]
   · refine ⟨1,_,rfl,?_⟩
     conv=>whnf
     repeat' (first|refine an ?_ ?_|((try refine gm ?_);first|((with_reducible show Kz _);(try dsimp+instances only);(with_reducible refine kz _ ?_);clear kz Kz)|refine st ?_|(refine sr ?_;intro Kz kz;conv=>whnf)|(refine cd ?_;(conv=>arg 2;whnf);refine st ?_)|refine blockK_y (by rfl) ?_|(refine sw ?_;conv=>whnf))|(refine gm ?_;conv=>whnf)|(intro hc;(try dsimp+instances only[Dat,SDat,dflt,Ty.size,keepS,bkUpd,Gv.bk,backS,wayA,maxI,minI,negI]at hc);try simp only[LS]at hc))
     all_goals (try ((fail_if_success refine nl ?_);(try dsimp only[Dat,SDat,dflt,Ty.size,keepS,bkUpd,Gv.bk,backS,wayA,maxI,minI,negI]);(try simp only[LS]);first|done|exact dsc|((try simp only[allP,lo,hi,room,true_and,and_true,implies_true]);(repeat' (first|refine an ?_ ?_|((with_reducible refine preA_t ?_ ?_);rotate_left;exact sameP_t)|intro hv))<;>(try omega))))
     · rw [List.take_of_length_le (by omega)]
     · rw [List.take_of_length_le (by omega)]
theorem ok_z77:SpecOK SP glob fi_z77 S_z77:=mk_ok (c:=c_z77) (tab_ok _) mix_ok wf_z77 (by decide) (.cons ok_z13 (.cons ok_con_start_1 (.cons ok_z111 (.cons ok_z110 (.cons ok_z83 .nil))))) (by intro x hx;first|exact selB_lt _|(dsimp only;(first|omega|(split<;>simp)|(split<;>(try split)<;>simp)))) g_z77
noncomputable def ksM (gs:List Gate) (m:List (Int × Bool)):List Bool:=(List.range gs.length).map fun i:Nat=>(@mget (Dat tInt) (Dat .bool) (instDecidableEqDat tInt) m (i:Int)).getD false
noncomputable def fM (ks:List Bool) (j:Int):Int:=if ks.getD j.toNat false=true then (rank ks j.toNat:Int) else 0
theorem ksM_get {gs:List Gate} {m:List (Int × Bool)} {k:Nat} (hk:k<gs.length):(ksM gs m).getD k false=(@mget (Dat tInt) (Dat .bool) (instDecidableEqDat tInt) m (k:Int)).getD false:=by
 rw [getD_ok false (by simp [ksM,hk])];simp [ksM]
def PlaceOK (ks:List Bool) (P:List (Int × Int)) (n:Nat):Prop:=∀ j:Int,@mget (Dat tInt) (Dat tInt) (instDecidableEqDat tInt) P j=if 0≤j∧j<n∧ks.getD j.toNat false=true then some (rank ks j.toNat:Int) else none
theorem PlaceOK.get {ks:List Bool} {P:List (Int × Int)} {n:Nat} (h:PlaceOK ks P n) {j:Int} (h0:0≤j) (h1:j<n):(@mget (Dat tInt) (Dat tInt) (instDecidableEqDat tInt) P j).getD 0=fM ks j:=by
 rw [h j]
 unfold fM
 by_cases hk:ks.getD j.toNat false=true
 · rw [if_pos ⟨h0,h1,hk⟩,if_pos hk];rfl
 · rw [if_neg (fun e=>hk e.2.2),if_neg hk];rfl
theorem PlaceOK.skip {ks:List Bool} {P:List (Int × Int)} {n:Nat} (h:PlaceOK ks P n) (hk:¬ ks.getD n false=true):PlaceOK ks P (n+1):=fun j=>by
 rw [h j]
 by_cases hj:0≤j∧j<n∧ks.getD j.toNat false=true
 · rw [if_pos hj,if_pos ⟨hj.1,by omega,hj.2.2⟩]
 · rw [if_neg hj,if_neg]
   rintro ⟨h1,h2,h3⟩
   by_cases hjn:j<n
   · exact hj ⟨h1,hjn,h3⟩
   · have:j.toNat=n:=by omega
     rw [this] at h3;exact hk h3
theorem PlaceOK.put {ks:List Bool} {P:List (Int × Int)} {n:Nat} (h:PlaceOK ks P n) (hk:ks.getD n false=true):PlaceOK ks (@mput (Dat tInt) (Dat tInt) (instDecidableEqDat tInt) P (n:Int) (rank ks n:Int)) (n+1):=fun j=>by
 rw [mget_mput]
 by_cases e:(n:Int)=j
 · subst e
   rw [if_pos rfl,if_pos ⟨by omega,by omega,by simpa using hk⟩];simp
 · rw [if_neg e,h j]
   by_cases hj:0≤j∧j<n∧ks.getD j.toNat false=true
   · rw [if_pos hj,if_pos ⟨hj.1,by omega,hj.2.2⟩]
   · rw [if_neg hj,if_neg]
     rintro ⟨h1,h2,h3⟩
     exact hj ⟨h1,by omega,h3⟩
@[reducible] noncomputable def S_z80:Spec:={ ins:=(.cons (.box (.cons (.d (.sl tGate)) (.cons (.spare tInt) (.cons (.map tInt .bool) (.cons (.spare tInt) .nil))))) .nil),pre:=(fun x=>(fun s=>(ValidC s.1∧SmallG s.1)∧s.2.1.length≤1000000∧∀ r∈s.2.1,0≤r∧r<(s.1.length:Int)) x.1),alts:=[{ outs:=(.cons (.d tCirc) (.cons (.d (.sl tInt)) (.cons (.d tInt) .nil))),res:=(fun x=>(fun s=>(if s.2.2.2.1=[] then (pickG s.1 (ksM s.1 s.2.2.1) (fM (ksM s.1 s.2.2.1)) s.1.length,()) else ([],()),if s.2.2.2.1=[] then s.2.1.map (fM (ksM s.1 s.2.2.1)) else [],if s.2.2.2.1=[] then 0 else 12,())) x.1)}],ro:=true}
noncomputable def c_z80:Cf:=(cf_z80 (Fl [(fi_z81,S_z81)]))
theorem g_z80:∀ x,S_z80.pre x→shOK S_z80.ins x→fnGoal c_z80 fn_z80 S_z80 x:=by
 rintro ⟨⟨gs,roots,m,w,⟨⟩⟩,⟨⟩⟩ hpre hok
 try dsimp only [Dat,SDat,dflt,Ty.size,keepS,bkUpd,Gv.bk,backS,wayA,maxI,minI,negI] at hpre
 have hln:=shLn_of _ hok;replace hok:=Hd.mk hok;try simp only [shLn,datLn,inRng,lo,hi,maxLen,true_and,and_true] at hln
 have hV:=hpre.1.1
 have hl:=hV.1
 have hS:=hpre.1.2
 have hR:=hpre.2.2
 have hsr:=hpre.2.1
 first|refine fn_goal (w_head ?_)
 intro Kz kz;(conv=>whnf);(try dsimp+instances only);refine kz _ ?_;clear kz Kz;(conv=>(arg 2;whnf))
 repeat' (first|refine an ?_ ?_|((try refine gm ?_);first|((with_reducible show Kz _);(try dsimp+instances only);(with_reducible refine kz _ ?_);clear kz Kz)|refine st ?_|(refine sr ?_;intro Kz kz;conv=>whnf)|(refine cd ?_;(conv=>arg 2;whnf);refine st ?_)|refine blockK_y (by rfl) ?_|(refine sw ?_;conv=>whnf))|(refine gm ?_;conv=>whnf)|(intro hc;(try dsimp+instances only[Dat,SDat,dflt,Ty.size,keepS,bkUpd,Gv.bk,backS,wayA,maxI,minI,negI]at hc);try simp only[LS]at hc))
 all_goals (try ((fail_if_success refine nl ?_);(try dsimp only[Dat,SDat,dflt,Ty.size,keepS,bkUpd,Gv.bk,backS,wayA,maxI,minI,negI]);(try simp only[LS]);first|done|exact dsc|((try simp only[allP,lo,hi,room,true_and,and_true,implies_true]);(repeat' (first|refine an ?_ ?_|((with_reducible refine preA_t ?_ ?_);rotate_left;exact sameP_t)|intro hv))<;>(try omega))))
 · rw [if_neg (fun e=>by rw [e] at hc;simp at hc)]
 · rw [if_neg (fun e=>by rw [e] at hc;simp at hc)]
 · rw [if_neg (fun e=>by rw [e] at hc;simp at hc)]
 have hw:w=[]:=List.eq_nil_of_length_eq_zero (by omega)
 have hkl:(ksM gs m).length=gs.length:=by simp [ksM]
 refine w_loop [(30, .d tInt)] [(6, .cons (.map tInt tInt) .nil),(7, .cons (.spare tGate) .nil)] (fun y=>∃ n:Nat,y.1.1=(n:Int)∧n≤gs.length∧PlaceOK (ksM gs m) y.2.1.1 n∧y.2.2.1.1=pickG gs (ksM gs m) (fM (ksM gs m)) n) (fun y=>gs.length - y.1.1.toNat) ?_
 conv=>whnf
 refine And.intro ?_ ?_
 · refine ⟨0,rfl,Nat.zero_le _,fun j=>?_,rfl⟩
   rw [if_neg (by omega)];rfl
 rintro ⟨⟨_,⟨⟩⟩,⟨P,⟨⟩⟩,⟨_,⟨⟩⟩,⟨⟩⟩ ⟨n,rfl,hn,hP,rfl⟩
 dsimp only at hP
 have hpl:=pickG_len gs (ksM gs m) (fM (ksM gs m)) n (by omega)
 have hrl:=rank_le (ksM gs m) n
 repeat' (first|refine an ?_ ?_|((try refine gm ?_);first|((with_reducible show Kz _);(try dsimp+instances only);(with_reducible refine kz _ ?_);clear kz Kz)|refine st ?_|(refine sr ?_;intro Kz kz;conv=>whnf)|(refine cd ?_;(conv=>arg 2;whnf);refine st ?_)|refine blockK_y (by rfl) ?_|(refine sw ?_;conv=>whnf))|(refine gm ?_;conv=>whnf)|(intro hc;(try dsimp+instances only[Dat,SDat,dflt,Ty.size,keepS,bkUpd,Gv.bk,backS,wayA,maxI,minI,negI]at hc);try simp only[LS]at hc))
 all_goals (try ((fail_if_success refine nl ?_);(try dsimp only[Dat,SDat,dflt,Ty.size,keepS,bkUpd,Gv.bk,backS,wayA,maxI,minI,negI]);(try simp only[LS]);first|done|exact dsc|((try simp only[allP,lo,hi,room,true_and,and_true,implies_true]);(repeat' (first|refine an ?_ ?_|((with_reducible refine preA_t ?_ ?_);rotate_left;exact sameP_t)|intro hv))<;>(try omega))))
 · exact hS _ (getD_mem (l:=gs) (by omega))
 · have hkn:(ksM gs m).getD n false=true:=by rw [ksM_get (by omega)];exact hc
   have hP':=hP.put hkn
   rw [← hpl] at hP'
   refine ⟨n+1,by omega,by omega,hP',?_⟩
   rw [pickG,if_pos hkn,mapG]
   congr 1
   congr 1
   congr 1
   congr 1
   congr 1
   refine List.map_congr_left fun j hj=>?_
   have:=kid_lt hV (k:=n) (by omega) hj
   exact hP'.get this.1 (by omega)
 · have hkn:¬ (ksM gs m).getD n false=true:=by rw [ksM_get (by omega),show _=false from hc];exact Bool.false_ne_true
   exact ⟨n+1,by omega,by omega,hP.skip hkn,by rw [pickG,if_neg hkn]⟩
 · rw [if_pos hw,show n=gs.length by omega]
 · rw [if_pos hw]
   refine List.map_congr_left fun j hj=>?_
   have:=hR j hj
   exact hP.get this.1 (by omega)
 · rw [if_pos hw]
theorem ok_z80:SpecOK SP glob fi_z80 S_z80:=mk_ok (c:=c_z80) (tab_ok _) mix_ok wf_z80 (by decide) (.cons ok_z81 .nil) (fun x hx=>Nat.zero_lt_one) g_z80
end Go.Gv
