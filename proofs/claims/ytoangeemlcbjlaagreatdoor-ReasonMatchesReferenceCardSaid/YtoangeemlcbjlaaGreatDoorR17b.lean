/- Chapter 17: the reference: a gate's reasons, and a circuit's. -/
import Derived.Test.YtoangeemlcbjlaaGreatDoorR17
import Derived.Test.YtoangeemlcbjlaaGreatDoorQ17g
set_option linter.all false
namespace Go.Gv
open Go Go.Proofs Go.Proofs.YtoangeemlcbjlaaGreatDoor
set_option maxRecDepth 100000
set_option maxHeartbeats 4000000
section
variable {T:Type}
structure EvF (S:GE T) (Q:T→Prop) (gs:List Gate) (n k:Nat) (all:List T):Prop where
 le:k≤n+1
 ln:all.length=n+1
 run:runR S gs (n:Int)=runE S gs (reachF gs n k) all
 qs:∀ m,Q (all.getD m S.z)
theorem EvF.start {S:GE T} {Q:T→Prop} {gs:List Gate} {n:Nat} (hz:Q S.z):EvF S Q gs n 0 (List.replicate (n+1) S.z):=by
 refine ⟨Nat.zero_le _,List.length_replicate,?_,fun m=>?_⟩
 · rw [← reachF_zero];rfl
 · rw [List.getD_eq_getElem?_getD,List.getElem?_replicate]
   split<;>exact hz
theorem EvF.step {S:GE T} {Q:T→Prop} {gs:List Gate} {n k:Nat} {all:List T} (h:EvF S Q gs n k all) (hk:k≤n) (hr:Rch gs n k) {v:T} (e:S.G all ((List.getD gs k ((0,0,[],()):Gate)))=(v,0)) (q:Q v):EvF S Q gs n (k+1) (all.set k v):=by
 have hl:=h.ln
 have h1:=h.run
 rw [reachF_hit hk hr] at h1
 have h2:=run_next h1 (by rw [e])
 rw [e] at h2
 exact ⟨by omega,by rw [List.length_set];exact hl,h2,set_q (by omega) h.qs q⟩
theorem EvF.skip {S:GE T} {Q:T→Prop} {gs:List Gate} {n k:Nat} {all:List T} (h:EvF S Q gs n k all) (hk:k≤n) (hr:¬ Rch gs n k):EvF S Q gs n (k+1) all:=⟨by omega,h.ln,by rw [h.run,reachF_miss hk hr],h.qs⟩
theorem EvF.stop {S:GE T} {Q:T→Prop} {gs:List Gate} {n k:Nat} {all:List T} (h:EvF S Q gs n k all) (hg:GoodI gs (n:Int)) (hk:k≤n) (hr:Rch gs n k) (e:¬ (S.G all ((List.getD gs k ((0,0,[],()):Gate)))).2=0):evC S gs (n:Int)=(S.z,(S.G all ((List.getD gs k ((0,0,[],()):Gate)))).2):=by
 have h1:=h.run
 rw [reachF_hit hk hr] at h1
 exact ev_stop hg h1 e
theorem EvF.fin {S:GE T} {Q:T→Prop} {gs:List Gate} {n k:Nat} {all:List T} (h:EvF S Q gs n k all) (hg:GoodI gs (n:Int)) (hk:¬ (k:Int)≤(n:Int)):evC S gs (n:Int)=(all.getD n S.z,0):=by
 have h1:=h.run
 rw [reachF_end (by omega)] at h1
 exact ev_end hg h1
end
theorem reachB_at {gs:List Gate} {i:Int} {k:Nat} (hk:k<gs.length):(reachB gs i).getD k false=true↔Rch gs i.toNat k:=by
 have hl:k<(reachB gs i).length:=by unfold reachB;rw [List.length_map,List.length_range];exact hk
 rw [getD_ok false hl]
 simp [reachB,boolOf_true]
theorem reachB_len (gs:List Gate) (i:Int):(reachB gs i).length=gs.length:=by unfold reachB;rw [List.length_map,List.length_range]
@[reducible] def tLs:Ty:= .sl (.sl tIs)
theorem SetOK.big {gs:List Gate} {s:Is} (h:SetOK gs s) (hl:gs.length≤16):s.length≤1000000:=by have:=h.len;omega
theorem mins_canE {gs:List Gate} {l:List Is} (h:BE gs l):Can (mins l):=mins_can h.inc
theorem putV_flat {l:List Is} {s:Is} {gs:List Gate} (hl:BE gs l) (hs:SetOK gs s):putV (mins l) s=mins (l++[s]):=putV_mins hl.inc hs.1
theorem BE.snoc {gs:List Gate} {l:List Is} {s:Is} (hl:BE gs l) (hs:SetOK gs s):BE gs (l++[s]):=fun t ht=>by
 rcases List.mem_append.1 ht with h|h
 · exact hl t h
 · rw [List.mem_singleton.1 h];exact hs
theorem SetOK.union {gs:List Gate} {a b:Is} (h:SetOK gs a) (k:SetOK gs b):SetOK gs (unionL a b):=⟨unionL_inc _ _,fun x hx=>(unionL_mem.1 hx).elim (h.2 x) (k.2 x)⟩
theorem BE.at {gs:List Gate} {l:List Is} (h:BE gs l) {k:Nat} (hk:k<l.length):SetOK gs (l.getD k []):=h _ (getD_mem (d:=([]:Is)) hk)
theorem BE.take {gs:List Gate} {l:List Is} (h:BE gs l) (k:Nat):BE gs (l.take k):=fun s hs=>h s (List.mem_of_mem_take hs)
def flatK (all:List (List Is)) (ks:List Int) (i:Nat):List Is:=((ks.take i).map (atL [] all)).flatten
theorem flatK_snoc {all:List (List Is)} {ks:List Int} {i:Nat} (h:i<ks.length):flatK all ks (i+1)=flatK all ks i++all.getD (ks.getD i 0).toNat []:=by
 unfold flatK
 rw [List.take_succ_eq_append_getElem h,List.map_append,List.flatten_append,getD_ok 0 h]
 simp [atL]
theorem flatK_be {gs:List Gate} {all:List (List Is)} {ks:List Int} (h:∀ m,BS gs (all.getD m [])) (i:Nat):BE gs (flatK all ks i):=fun s hs=>by
 obtain ⟨L,hL,hs⟩:=List.mem_flatten.1 hs
 obtain ⟨j,_,rfl⟩:=List.mem_map.1 hL
 exact (h _).1 s hs
def timesK (all:List (List Is)) (ks:List Int) (i:Nat):List Is:=timesR ((ks.take i).map (atL [] all))
theorem timesK_snoc {all:List (List Is)} {ks:List Int} {i:Nat} (h:i<ks.length):timesK all ks (i+1)=mins (pairsU (timesK all ks i) (all.getD (ks.getD i 0).toNat [])):=by
 unfold timesK timesR
 rw [List.take_succ_eq_append_getElem h,List.map_append,List.foldl_append,getD_ok 0 h]
 simp [atL]
theorem timesK_bs {gs:List Gate} (hl:gs.length≤16) {all:List (List Is)} {ks:List Int} (h:∀ m,BS gs (all.getD m [])):∀ i,i≤ks.length→BS gs (timesK all ks i)
 |0,_=>BS.empty gs
 |i+1,hi=>by
  rw [timesK_snoc (by omega)]
  exact BE.mins (BE.pairs (timesK_bs hl h i (by omega)).1 (h _).1) hl
def pairK (A B:List Is) (k n:Nat):List Is:=pairsU (A.take k) B++(B.take n).map fun b=>unionL (A.getD k []) b
theorem pairK_zero (A B:List Is):pairK A B 0 0=[]:=by simp [pairK,pairsU]
theorem pairK_snoc {A B:List Is} {k n:Nat} (h:n<B.length):pairK A B k (n+1)=pairK A B k n++[unionL (A.getD k []) (B.getD n [])]:=by
 unfold pairK
 rw [List.take_succ_eq_append_getElem h,List.map_append,List.append_assoc,getD_ok [] h];rfl
theorem pairK_next {A B:List Is} {k n:Nat} (hk:k<A.length) (h:B.length≤n):pairK A B k n=pairK A B (k+1) 0:=by
 unfold pairK
 rw [List.take_of_length_le h,List.take_succ_eq_append_getElem hk]
 unfold pairsU
 rw [List.flatMap_append,getD_ok [] hk]
 simp
theorem pairK_full {A B:List Is} {k:Nat} (h:A.length≤k):pairK A B k 0=pairsU A B:=by
 unfold pairK
 rw [List.take_of_length_le h];simp
theorem pairK_be {gs:List Gate} {A B:List Is} (hA:BE gs A) (hB:BE gs B) {k n:Nat} (h:k<A.length∨n=0):BE gs (pairK A B k n):=by
 refine BE.append (BE.pairs (hA.take k) hB) fun s hs=>?_
 obtain ⟨b,hb,rfl⟩:=List.mem_map.1 hs
 rcases h with h|h
 · exact SetOK.union (hA.at h) (hB.take n b hb)
 · subst h;cases hb
structure GPre (gs:List Gate) (g:Gate) (all:List (List Is)):Prop where
 few:gs.length≤16
 kl:g.2.2.1.length≤20
 kids:∀ j∈g.2.2.1,0≤j∧j<(all.length:Int)
 ok:∀ m,BS gs (all.getD m [])
theorem gateR_1 {h:List Bool} {all:List (List Is)} {g:Gate} (q:g.1=1):gateR h all g=[[]]:=if_pos q
theorem gateR_2a {h:List Bool} {all:List (List Is)} {g:Gate} (q1:¬ g.1=1) (q:g.1=2) (c:hadB h g.2.1=true):gateR h all g=[[]]:=by unfold gateR varR;rw [if_neg q1,if_pos q,if_pos c]
theorem gateR_2b {h:List Bool} {all:List (List Is)} {g:Gate} (q1:¬ g.1=1) (q:g.1=2) (c:¬ hadB h g.2.1=true):gateR h all g=[[g.2.1]]:=by unfold gateR varR;rw [if_neg q1,if_pos q,if_neg c]
theorem gateR_3 {h:List Bool} {all:List (List Is)} {g:Gate} (q1:¬ g.1=1) (q2:¬ g.1=2) (q:g.1=3):gateR h all g=mins (flatK all g.2.2.1 g.2.2.1.length):=by unfold gateR plusR flatK;rw [if_neg q1,if_neg q2,if_pos q,List.take_length]
theorem gateR_4 {h:List Bool} {all:List (List Is)} {g:Gate} (q1:¬ g.1=1) (q2:¬ g.1=2) (q3:¬ g.1=3) (q:g.1=4):gateR h all g=timesK all g.2.2.1 g.2.2.1.length:=by unfold gateR timesK;rw [if_neg q1,if_neg q2,if_neg q3,if_pos q,List.take_length]
theorem gateR_0 {h:List Bool} {all:List (List Is)} {g:Gate} (q1:¬ g.1=1) (q2:¬ g.1=2) (q3:¬ g.1=3) (q:¬ g.1=4):gateR h all g=[]:=by unfold gateR;rw [if_neg q1,if_neg q2,if_neg q3,if_neg q]
@[reducible] noncomputable def S_z80:Spec:={ ins:=(.cons (.d tGate) (.cons (.d (.sl .bool)) (.cons (.row (.sl tIs)) .nil))),pre:=(fun x=>(fun g h l=>∃ gs,GPre gs g l) x.1 x.2.1 x.2.2.1),alts:=[{ outs:=(.cons (.d (.sl tIs)) .nil),res:=(fun x=>(fun g h l=>(gateR h l g,())) x.1 x.2.1 x.2.2.1)}],ro:=true,noisy:=true}
noncomputable def c_z80:Cf:={ cf_z80 (Fl [(fi_z81,S_z81),(fi_z74,S_z74),(fi_z76,S_z76)]) with nz:=true}
theorem g_z80:∀ x,S_z80.pre x→shOK S_z80.ins x→fnGoal c_z80 fn_z80 S_z80 x:=by
 rintro ⟨⟨(gk:Int),(gv:Int),(ks:List Int),⟨⟩⟩,(h:List Bool),(all:List (List Is)),⟨⟩⟩ hpre hok
 try dsimp only [Dat,SDat,dflt,Ty.size,keepS,bkUpd,Gv.bk,backS,wayA,maxI,minI,negI] at hpre
 have hln:=shLn_of _ hok;replace hok:=Hd.mk hok;try simp only [shLn,datLn,inRng,lo,hi,maxLen,true_and,and_true] at hln
 obtain ⟨gs,hP⟩:=hpre
 have hP:GPre gs (gk,gv,ks,()) all:=hP
 have hg9:=hP.few
 have hkl:ks.length≤20:=hP.kl
 have hok:=hP.ok
 have hin:=fun (i:Nat) (q:(i:Int)<(ks.length:Int))=>show 0≤ks.getD i 0∧ks.getD i 0<(all.length:Int)∧(ks.getD i 0).toNat<all.length from by
  have:=hP.kids (ks.getD i 0) (getD_mem (d:=(0:Int)) (show i<ks.length by omega))
  omega
 have g1:=fun q=>(gateR_1 (h:=h) (all:=all) (g:=(gk,gv,ks,())) q).symm
 have g2a:=fun q1 q c=>(gateR_2a (h:=h) (all:=all) (g:=(gk,gv,ks,())) q1 q c).symm
 have g2b:=fun q1 q c=>(gateR_2b (h:=h) (all:=all) (g:=(gk,gv,ks,())) q1 q c).symm
 have g3:=fun q1 q2 q=>(gateR_3 (h:=h) (all:=all) (g:=(gk,gv,ks,())) q1 q2 q).symm
 have g4:=fun q1 q2 q3 q=>(gateR_4 (h:=h) (all:=all) (g:=(gk,gv,ks,())) q1 q2 q3 q).symm
 have g0:=fun q1 q2 q3 q=>(gateR_0 (h:=h) (all:=all) (g:=(gk,gv,ks,())) q1 q2 q3 q).symm
 first|refine fn_goal (w_head ?_)
 intro Kz kz;(conv=>whnf);(try dsimp+instances only);refine kz _ ?_;clear kz Kz;(conv=>(arg 2;whnf))
 repeat' (first|refine an ?_ ?_|((try refine gm ?_);first|((with_reducible show Kz _);(try dsimp+instances only);(with_reducible refine kz _ ?_);clear kz Kz)|refine st ?_|(refine sr ?_;intro Kz kz;conv=>whnf)|(refine cd ?_;(conv=>arg 2;whnf);refine st ?_)|refine blockK_y (by rfl) ?_|(refine sw ?_;conv=>whnf))|(refine gm ?_;conv=>whnf)|(intro hc;(try dsimp+instances only[Dat,SDat,dflt,Ty.size,keepS,bkUpd,Gv.bk,backS,wayA,maxI,minI,negI]at hc);try simp only[LS]at hc))
 all_goals (try ((fail_if_success refine nl ?_);(try dsimp only[Dat,SDat,dflt,Ty.size,keepS,bkUpd,Gv.bk,backS,wayA,maxI,minI,negI]);(try simp only[LS]);first|done|exact dsc|((try simp only[allP,lo,hi,room,true_and,and_true,implies_true]);(repeat' (first|refine an ?_ ?_|((with_reducible refine preA_t ?_ ?_);rotate_left;exact sameP_t)|intro hv))<;>(try omega))))
 all_goals (try (first
  |exact g1 (by assumption)
  |exact g2a (by assumption) (by assumption) (by assumption)
  |exact g2b (by assumption) (by assumption) (by rw [hc];decide)
  |exact g0 (by assumption) (by assumption) (by assumption) (by assumption)))
 · refine w_loop [(8, .d tInt),(7, .d (.sl tIs))] [] (fun y=>∃ i:Nat,y.1.1=(i:Int)∧i≤ks.length∧y.1.2.1=mins (flatK all ks i)) (fun y=>ks.length - y.1.1.toNat) ?_
   conv=>whnf
   refine And.intro ?_ ?_
   · exact ⟨0,rfl,Nat.zero_le _,mins_nil.symm⟩
   rintro ⟨⟨_,ou,⟨⟩⟩,⟨⟩⟩ ⟨i,rfl,hi,hou⟩
   have hou:ou=mins (flatK all ks i):=hou
   subst hou
   have hki:=hin i
   have hfl:=fun (h:¬ i<ks.length)=>show flatK all ks i=flatK all ks ks.length from by rw [show i=ks.length by omega]
   repeat' (first|refine an ?_ ?_|((try refine gm ?_);first|((with_reducible show Kz _);(try dsimp+instances only);(with_reducible refine kz _ ?_);clear kz Kz)|refine st ?_|(refine sr ?_;intro Kz kz;conv=>whnf)|(refine cd ?_;(conv=>arg 2;whnf);refine st ?_)|refine blockK_y (by rfl) ?_|(refine sw ?_;conv=>whnf))|(refine gm ?_;conv=>whnf)|(intro hc;(try dsimp+instances only[Dat,SDat,dflt,Ty.size,keepS,bkUpd,Gv.bk,backS,wayA,maxI,minI,negI]at hc);try simp only[LS]at hc))
   all_goals (try ((fail_if_success refine nl ?_);(try dsimp only[Dat,SDat,dflt,Ty.size,keepS,bkUpd,Gv.bk,backS,wayA,maxI,minI,negI]);(try simp only[LS]);first|done|exact dsc|((try simp only[allP,lo,hi,room,true_and,and_true,implies_true]);(repeat' (first|refine an ?_ ?_|((with_reducible refine preA_t ?_ ?_);rotate_left;exact sameP_t)|intro hv))<;>(try omega))))
   all_goals (try (first
    |(rw [hfl (by omega)];exact g3 (by assumption) (by assumption) (by assumption))
    |exact (hki (by omega)).1
    |exact (hki (by omega)).2.1
    |exact (hki (by omega)).2.2))
   have hil:i<ks.length:=by omega
   obtain ⟨L,hL⟩:∃ L,L=all.getD (ks.getD i 0).toNat []:=⟨_,rfl⟩
   have hLb:BS gs L:=by rw [hL];exact hok _
   have hLl:=hLb.2
   have hsn:=flatK_snoc (all:=all) hil
   rw [← hL] at hsn
   refine w_loop [(9, .d tInt),(7, .d (.sl tIs))] [] (fun y=>∃ k:Nat,y.1.1=(k:Int)∧k≤L.length∧y.1.2.1=mins (flatK all ks i++L.take k)) (fun y=>L.length - y.1.1.toNat) ?_
   conv=>whnf
   refine And.intro ?_ ?_
   · exact ⟨0,rfl,Nat.zero_le _,by rw [List.take_zero,List.append_nil]⟩
   rintro ⟨⟨_,ou,⟨⟩⟩,⟨⟩⟩ ⟨k,rfl,hk,hou⟩
   have hou:ou=mins (flatK all ks i++L.take k):=hou
   subst hou
   have hbe:BE gs (flatK all ks i++L.take k):=BE.append (flatK_be hok i) (hLb.1.take k)
   have hms:=hbe.mins hg9
   have hml:List.length (mins (flatK all ks i++L.take k))≤1000000:=Nat.le_trans hms.2 (by decide)
   have hcn:=mins_canE hbe
   have hki:=hin i
   have hi8:(i:Int)+1≤Gv.hi IntKind.i64:=Int.le_trans (show (i:Int)+1≤65536 by omega) (by decide)
   have hk8:k<L.length→(k:Int)+1≤Gv.hi IntKind.i64:=fun h=>Int.le_trans (show (k:Int)+1≤65536 by omega) (by decide)
   have hst:=fun (h:k<L.length)=>hLb.1.at h
   have hnx:=fun (h:k<L.length)=>show putV (mins (flatK all ks i++L.take k)) (L.getD k [])=mins (flatK all ks i++L.take (k+1)) from by
    rw [putV_flat hbe (hst h),List.append_assoc,List.take_succ_eq_append_getElem h,getD_ok [] h]
   have hen:=fun (h:¬ k<L.length)=>show mins (flatK all ks i++L.take k)=mins (flatK all ks (i+1)) from by
    rw [hsn,List.take_of_length_le (by omega)]
   repeat' (first|refine an ?_ ?_|((try refine gm ?_);first|((with_reducible show Kz _);(try dsimp+instances only);(with_reducible refine kz _ ?_);clear kz Kz)|refine st ?_|(refine sr ?_;intro Kz kz;conv=>whnf)|(refine cd ?_;(conv=>arg 2;whnf);refine st ?_)|refine blockK_y (by rfl) ?_|(refine sw ?_;conv=>whnf))|(refine gm ?_;conv=>whnf)|(intro hc;(try dsimp+instances only[Dat,SDat,dflt,Ty.size,keepS,bkUpd,Gv.bk,backS,wayA,maxI,minI,negI]at hc);try simp only[LS]at hc))
   all_goals (try ((fail_if_success refine nl ?_);(try dsimp only[Dat,SDat,dflt,Ty.size,keepS,bkUpd,Gv.bk,backS,wayA,maxI,minI,negI]);(try simp only[LS]);first|done|exact dsc|((try simp only[allP,lo,hi,room,true_and,and_true,implies_true]);(repeat' (first|refine an ?_ ?_|((with_reducible refine preA_t ?_ ?_);rotate_left;exact sameP_t)|intro hv))<;>(try omega))))
   all_goals (try ((fail_if_success refine nl ?_);simp only [← hL]))
   all_goals (try simp only [← hL] at hc)
   all_goals (first
    |exact (hst (by omega)).1
    |exact hcn
    |exact hml
    |with_reducible exact hk8 (by omega)
    |with_reducible exact hi8
    |exact ⟨k+1,rfl,by omega,hnx (by omega)⟩
    |exact ⟨i+1,rfl,by omega,hen (by omega)⟩
    |omega)
 · refine w_loop [(10, .d tInt),(7, .d (.sl tIs))] [] (fun y=>∃ i:Nat,y.1.1=(i:Int)∧i≤ks.length∧y.1.2.1=timesK all ks i) (fun y=>ks.length - y.1.1.toNat) ?_
   conv=>whnf
   refine And.intro ?_ ?_
   · exact ⟨0,rfl,Nat.zero_le _,rfl⟩
   rintro ⟨⟨_,ou,⟨⟩⟩,⟨⟩⟩ ⟨i,rfl,hi,hou⟩
   have hou:ou=timesK all ks i:=hou
   subst hou
   have hki:=hin i
   have hfl:=fun (h:¬ i<ks.length)=>show timesK all ks i=timesK all ks ks.length from by rw [show i=ks.length by omega]
   have hAb:=timesK_bs hg9 hok i hi
   obtain ⟨A,hA⟩:∃ A,A=timesK all ks i:=⟨_,rfl⟩
   rw [← hA] at hAb hfl ⊢
   have hAl:=hAb.2
   repeat' (first|refine an ?_ ?_|((try refine gm ?_);first|((with_reducible show Kz _);(try dsimp+instances only);(with_reducible refine kz _ ?_);clear kz Kz)|refine st ?_|(refine sr ?_;intro Kz kz;conv=>whnf)|(refine cd ?_;(conv=>arg 2;whnf);refine st ?_)|refine blockK_y (by rfl) ?_|(refine sw ?_;conv=>whnf))|(refine gm ?_;conv=>whnf)|(intro hc;(try dsimp+instances only[Dat,SDat,dflt,Ty.size,keepS,bkUpd,Gv.bk,backS,wayA,maxI,minI,negI]at hc);try simp only[LS]at hc))
   all_goals (try ((fail_if_success refine nl ?_);(try dsimp only[Dat,SDat,dflt,Ty.size,keepS,bkUpd,Gv.bk,backS,wayA,maxI,minI,negI]);(try simp only[LS]);first|done|exact dsc|((try simp only[allP,lo,hi,room,true_and,and_true,implies_true]);(repeat' (first|refine an ?_ ?_|((with_reducible refine preA_t ?_ ?_);rotate_left;exact sameP_t)|intro hv))<;>(try omega))))
   all_goals (try (first
    |(rw [hfl (by omega)];exact g4 (by assumption) (by assumption) (by assumption) (by assumption))
    |exact (hki (by omega)).1
    |exact (hki (by omega)).2.1
    |exact (hki (by omega)).2.2))
   have hil:i<ks.length:=by omega
   obtain ⟨L,hL⟩:∃ L,L=all.getD (ks.getD i 0).toNat []:=⟨_,rfl⟩
   have hLb:BS gs L:=by rw [hL];exact hok _
   have hLl:=hLb.2
   have hsn:=timesK_snoc (all:=all) hil
   rw [← hL,← hA] at hsn
   refine w_loop [(12, .d tInt),(11, .d (.sl tIs))] [] (fun y=>∃ k:Nat,y.1.1=(k:Int)∧k≤A.length∧y.1.2.1=mins (pairK A L k 0)) (fun y=>A.length - y.1.1.toNat) ?_
   conv=>whnf
   refine And.intro ?_ ?_
   · exact ⟨0,rfl,Nat.zero_le _,by rw [pairK_zero];exact mins_nil.symm⟩
   rintro ⟨⟨_,nx,⟨⟩⟩,⟨⟩⟩ ⟨k,rfl,hk,hnx⟩
   have hnx:nx=mins (pairK A L k 0):=hnx
   subst hnx
   have hi8:(i:Int)+1≤Gv.hi IntKind.i64:=Int.le_trans (show (i:Int)+1≤65536 by omega) (by decide)
   have hfin:=fun (h:¬ k<A.length)=>show mins (pairK A L k 0)=timesK all ks (i+1) from by rw [pairK_full (by omega),hsn]
   repeat' (first|refine an ?_ ?_|((try refine gm ?_);first|((with_reducible show Kz _);(try dsimp+instances only);(with_reducible refine kz _ ?_);clear kz Kz)|refine st ?_|(refine sr ?_;intro Kz kz;conv=>whnf)|(refine cd ?_;(conv=>arg 2;whnf);refine st ?_)|refine blockK_y (by rfl) ?_|(refine sw ?_;conv=>whnf))|(refine gm ?_;conv=>whnf)|(intro hc;(try dsimp+instances only[Dat,SDat,dflt,Ty.size,keepS,bkUpd,Gv.bk,backS,wayA,maxI,minI,negI]at hc);try simp only[LS]at hc))
   all_goals (try ((fail_if_success refine nl ?_);(try dsimp only[Dat,SDat,dflt,Ty.size,keepS,bkUpd,Gv.bk,backS,wayA,maxI,minI,negI]);(try simp only[LS]);first|done|exact dsc|((try simp only[allP,lo,hi,room,true_and,and_true,implies_true]);(repeat' (first|refine an ?_ ?_|((with_reducible refine preA_t ?_ ?_);rotate_left;exact sameP_t)|intro hv))<;>(try omega))))
   all_goals (try simp only [← hL] at hc)
   · refine w_loop [(13, .d tInt),(11, .d (.sl tIs))] [] (fun y=>∃ n:Nat,y.1.1=(n:Int)∧n≤L.length∧y.1.2.1=mins (pairK A L k n)) (fun y=>L.length - y.1.1.toNat) ?_
     conv=>whnf
     refine And.intro ?_ ?_
     · exact ⟨0,rfl,Nat.zero_le _,rfl⟩
     rintro ⟨⟨_,nx,⟨⟩⟩,⟨⟩⟩ ⟨n,rfl,hn,hnx⟩
     have hnx:nx=mins (pairK A L k n):=hnx
     subst hnx
     have hkA:k<A.length:=by omega
     have hpe:=pairK_be hAb.1 hLb.1 (k:=k) (n:=n) (.inl hkA)
     have hms:=hpe.mins hg9
     have hml:List.length (mins (pairK A L k n))≤1000000:=Nat.le_trans hms.2 (by decide)
     have hcn:=mins_canE hpe
     have hki:=hin i
     have hi8:(i:Int)+1≤Gv.hi IntKind.i64:=Int.le_trans (show (i:Int)+1≤65536 by omega) (by decide)
     have hk8:(k:Int)+1≤Gv.hi IntKind.i64:=Int.le_trans (show (k:Int)+1≤65536 by omega) (by decide)
     have hn8:n<L.length→(n:Int)+1≤Gv.hi IntKind.i64:=fun h=>Int.le_trans (show (n:Int)+1≤65536 by omega) (by decide)
     have ha9:=hAb.1.at hkA
     have hb9:=fun (h:n<L.length)=>hLb.1.at h
     have hst:=fun (h:n<L.length)=>show putV (mins (pairK A L k n)) (unionL (A.getD k []) (L.getD n []))=mins (pairK A L k (n+1)) from by
      rw [putV_flat hpe (SetOK.union ha9 (hb9 h)),pairK_snoc h]
     have hen:=fun (h:¬ n<L.length)=>show mins (pairK A L k n)=mins (pairK A L (k+1) 0) from by
      rw [pairK_next hkA (by omega)]
     repeat' (first|refine an ?_ ?_|((try refine gm ?_);first|((with_reducible show Kz _);(try dsimp+instances only);(with_reducible refine kz _ ?_);clear kz Kz)|refine st ?_|(refine sr ?_;intro Kz kz;conv=>whnf)|(refine cd ?_;(conv=>arg 2;whnf);refine st ?_)|refine blockK_y (by rfl) ?_|(refine sw ?_;conv=>whnf))|(refine gm ?_;conv=>whnf)|(intro hc;(try dsimp+instances only[Dat,SDat,dflt,Ty.size,keepS,bkUpd,Gv.bk,backS,wayA,maxI,minI,negI]at hc);try simp only[LS]at hc))
     all_goals (try ((fail_if_success refine nl ?_);(try dsimp only[Dat,SDat,dflt,Ty.size,keepS,bkUpd,Gv.bk,backS,wayA,maxI,minI,negI]);(try simp only[LS]);first|done|exact dsc|((try simp only[allP,lo,hi,room,true_and,and_true,implies_true]);(repeat' (first|refine an ?_ ?_|((with_reducible refine preA_t ?_ ?_);rotate_left;exact sameP_t)|intro hv))<;>(try omega))))
     all_goals (try ((fail_if_success refine nl ?_);simp only [← hL]))
     all_goals (try simp only [← hL] at hc)
     all_goals (first
      |exact ha9.1
      |exact ha9.big hg9
      |exact (hb9 (by omega)).1
      |exact (hb9 (by omega)).big hg9
      |exact unionL_inc _ _
      |exact hcn
      |exact hml
      |with_reducible exact hk8
      |with_reducible exact hn8 (by omega)
      |with_reducible exact hi8
      |exact ⟨n+1,rfl,by omega,hst (by omega)⟩
      |exact ⟨k+1,rfl,by omega,hen (by omega)⟩
      |omega)
   all_goals (first|exact ⟨i+1,rfl,by omega,hfin (by omega)⟩|with_reducible exact hi8|omega)
theorem ok_z80:SpecOK SP glob fi_z80 S_z80:=mk_ok (c:=c_z80) (tab_ok _) mix_ok wf_z80 (by decide) (.cons ok_z81 (.cons ok_z74 (.cons ok_z76 .nil))) (fun x hx=>Nat.zero_lt_one) g_z80
end Go.Gv
