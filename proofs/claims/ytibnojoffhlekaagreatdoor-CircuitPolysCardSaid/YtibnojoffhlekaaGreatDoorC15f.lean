/- Chapter 15: the reference's product of powers, and its end of a sum. -/
import Derived.Test.YtibnojoffhlekaaGreatDoorC15b
set_option linter.all false
namespace Go.Gv
open Go Go.Proofs Go.Proofs.YtibnojoffhlekaaGreatDoor
set_option maxRecDepth 100000
set_option maxHeartbeats 4000000
def mulP:List Pw→List Pw→List Pw
 |[],b=>b
 |x::a,[]=>x::a
 |x::a,y::b=>if x.1<y.1 then x::mulP a (y::b) else if y.1<x.1 then y::mulP (x::a) b else (x.1,x.2.1+y.2.1,())::mulP a b
termination_by a b=>a.length+b.length
theorem mulP_nil (a:List Pw):mulP a []=a:=by cases a<;>simp [mulP]
theorem mulP_a {a b:List Pw} {i k:Nat} (hi:i<a.length) (h:b.length≤k∨(List.getD a i ((0,0,()):Pw)).1<(List.getD b k ((0,0,()):Pw)).1):mulP (a.drop i) (b.drop k)=(List.getD a i ((0,0,()):Pw))::mulP (a.drop (i+1)) (b.drop k):=by
 rw [List.drop_eq_getElem_cons hi,getD_ok _ hi]
 by_cases hk:k<b.length
 · rw [List.drop_eq_getElem_cons hk]
   have h1:=h.resolve_left (by omega)
   rw [getD_ok _ hi,getD_ok _ hk] at h1
   rw [mulP,if_pos h1]
 · have hb:b.drop k=[]:=List.drop_eq_nil_of_le (by omega)
   rw [hb,mulP_nil,mulP_nil]
theorem mulP_b {a b:List Pw} {i k:Nat} (hk:k<b.length) (h:a.length≤i∨(List.getD b k ((0,0,()):Pw)).1<(List.getD a i ((0,0,()):Pw)).1):mulP (a.drop i) (b.drop k)=(List.getD b k ((0,0,()):Pw))::mulP (a.drop i) (b.drop (k+1)):=by
 rw [List.drop_eq_getElem_cons hk,getD_ok _ hk]
 by_cases hi:i<a.length
 · rw [List.drop_eq_getElem_cons hi]
   have h1:=h.resolve_left (by omega)
   rw [getD_ok _ hi,getD_ok _ hk] at h1
   rw [mulP,if_neg (by omega),if_pos h1]
 · have ha:a.drop i=[]:=List.drop_eq_nil_of_le (by omega)
   rw [ha];simp [mulP]
theorem mulP_c {a b:List Pw} {i k:Nat} (hi:i<a.length) (hk:k<b.length) (h:(List.getD a i ((0,0,()):Pw)).1=(List.getD b k ((0,0,()):Pw)).1):mulP (a.drop i) (b.drop k)=((List.getD a i ((0,0,()):Pw)).1,(List.getD a i ((0,0,()):Pw)).2.1+(List.getD b k ((0,0,()):Pw)).2.1,())::mulP (a.drop (i+1)) (b.drop (k+1)):=by
 rw [List.drop_eq_getElem_cons hk,getD_ok _ hk,List.drop_eq_getElem_cons hi,getD_ok _ hi]
 rw [getD_ok _ hi,getD_ok _ hk] at h
 rw [mulP,if_neg (by omega),if_neg (by omega)]
def smP (l:List Pw):Prop:=l.length≤100000∧∀ x∈l, -1000000≤x.2.1∧x.2.1≤1000000
def smX (x:Pw):Prop:= -1000000≤x.2.1∧x.2.1≤1000000
@[reducible] noncomputable def S_z94:Spec:={ ins:=(.cons (.d (.sl tPw)) (.cons (.d (.sl tPw)) .nil)),pre:=(fun x=>(fun a b=>smP a∧smP b) x.1 x.2.1),alts:=[{ outs:=(.cons (.d (.sl tPw)) .nil),res:=(fun x=>(fun a b=>(mulP a b,())) x.1 x.2.1)}]}
noncomputable def c_z94:Cf:=(cf_z94 (Fl []))
theorem g_z94:∀ x,S_z94.pre x→shOK S_z94.ins x→fnGoal c_z94 fn_z94 S_z94 x:=by
 rintro ⟨a,b,⟨⟩⟩ hpre hok
 try dsimp only [Dat,SDat,dflt,Ty.size,keepS,bkUpd,Gv.bk,backS,wayA,maxI,minI,negI] at hpre
 have hln:=shLn_of _ hok;replace hok:=Hd.mk hok;try simp only [shLn,datLn,inRng,lo,hi,maxLen,true_and,and_true] at hln
 have ha:smP a:=hpre.1
 have hb:smP b:=hpre.2
 have hla:=ha.1
 have hlb:=hb.1
 first|refine fn_goal (w_head ?_)
 intro Kz kz;(conv=>whnf);(try dsimp+instances only);refine kz _ ?_;clear kz Kz;(conv=>(arg 2;whnf))
 repeat' (first|refine an ?_ ?_|((try refine gm ?_);first|((with_reducible show Kz _);(try dsimp+instances only);(with_reducible refine kz _ ?_);clear kz Kz)|refine st ?_|(refine sr ?_;intro Kz kz;conv=>whnf)|(refine cd ?_;(conv=>arg 2;whnf);refine st ?_)|refine blockK_y (by rfl) ?_|(refine sw ?_;conv=>whnf))|(refine gm ?_;conv=>whnf)|(intro hc;(try dsimp+instances only[Dat,SDat,dflt,Ty.size,keepS,bkUpd,Gv.bk,backS,wayA,maxI,minI,negI]at hc);try simp only[LS]at hc))
 all_goals (try ((fail_if_success refine nl ?_);(try dsimp only[Dat,SDat,dflt,Ty.size,keepS,bkUpd,Gv.bk,backS,wayA,maxI,minI,negI]);(try simp only[LS]);first|done|exact dsc|((try simp only[allP,lo,hi,room,true_and,and_true,implies_true]);(repeat' (first|refine an ?_ ?_|((with_reducible refine preA_t ?_ ?_);rotate_left;exact sameP_t)|intro hv))<;>(try omega))))
 refine w_loop [(5, .spare tPw),(6, .d tInt),(7, .d tInt)] [] (fun y=>∃ i k:Nat,y.1.2.1=(i:Int)∧y.1.2.2.1=(k:Int)∧i≤a.length∧k≤b.length∧List.length y.1.1≤i+k∧(y.1.1:List Pw)++mulP (a.drop i) (b.drop k)=mulP a b) (fun y=>a.length+b.length - y.1.2.1.toNat - y.1.2.2.1.toNat) ?_
 conv=>whnf
 refine And.intro ?_ ?_
 · exact ⟨0,0,rfl,rfl,by omega,by omega,by simp,by simp⟩
 rintro ⟨⟨ou,_,_,⟨⟩⟩,⟨⟩⟩ ⟨i,k,rfl,rfl,hia,hkb,hol,hou⟩
 have hol:List.length ou≤i+k:=hol
 have hou:(ou:List Pw)++mulP (a.drop i) (b.drop k)=mulP a b:=hou
 have hxa:i<a.length→smX (List.getD a i ((0,0,()):Pw)):=fun h=>ha.2 _ (getD_mem h)
 have hxb:k<b.length→smX (List.getD b k ((0,0,()):Pw)):=fun h=>hb.2 _ (getD_mem h)
 unfold smX at hxa hxb
 repeat' (first|refine an ?_ ?_|((try refine gm ?_);first|((with_reducible show Kz _);(try dsimp+instances only);(with_reducible refine kz _ ?_);clear kz Kz)|refine st ?_|(refine sr ?_;intro Kz kz;conv=>whnf)|(refine cd ?_;(conv=>arg 2;whnf);refine st ?_)|refine blockK_y (by rfl) ?_|(refine sw ?_;conv=>whnf))|(refine gm ?_;conv=>whnf)|(intro hc;(try dsimp+instances only[Dat,SDat,dflt,Ty.size,keepS,bkUpd,Gv.bk,backS,wayA,maxI,minI,negI]at hc);try simp only[LS]at hc))
 all_goals (try ((fail_if_success refine nl ?_);(try dsimp only[Dat,SDat,dflt,Ty.size,keepS,bkUpd,Gv.bk,backS,wayA,maxI,minI,negI]);(try simp only[LS]);first|done|exact dsc|((try simp only[allP,lo,hi,room,true_and,and_true,implies_true]);(repeat' (first|refine an ?_ ?_|((with_reducible refine preA_t ?_ ?_);rotate_left;exact sameP_t)|intro hv))<;>(try omega))))
 all_goals (first
  |(have:=hxa (by omega);have:=hxb (by omega);omega)
  |(refine ⟨i+1,k,by omega,rfl,by omega,by omega,by omega,?_⟩
    rw [List.append_assoc,← hou,mulP_a (i:=i) (k:=k) (by omega) (hc.imp (fun h=>by omega) (fun h=>h.2))];rfl)
  |(refine ⟨i,k+1,rfl,by omega,by omega,by omega,by omega,?_⟩
    rw [List.append_assoc,← hou,mulP_b (i:=i) (k:=k) (by omega) (hc.imp (fun h=>by omega) id)];rfl)
  |(rename_i h0
    have h1:=not_or.1 hc
    have h2:=not_or.1 h0
    refine ⟨i+1,k+1,by omega,by omega,by omega,by omega,by omega,?_⟩
    have h3:i<a.length:=by omega
    have h4:¬ (List.getD a i ((0,0,()):Pw)).1<(List.getD b k ((0,0,()):Pw)).1:=fun h=>h2.2 ⟨by omega,h⟩
    rw [List.append_assoc,← hou,mulP_c (i:=i) (k:=k) h3 (by omega) (Int.le_antisymm (Int.not_lt.1 h1.2) (Int.not_lt.1 h4))];rfl)
  |(have h1:a.drop i=[]:=List.drop_eq_nil_of_le (by omega)
    have h2:b.drop k=[]:=List.drop_eq_nil_of_le (by omega)
    rw [h1,h2] at hou
    simpa [mulP] using hou)
  |skip)
theorem ok_z94:SpecOK SP glob fi_z94 S_z94:=mk_ok (c:=c_z94) (tab_ok _) mix_ok wf_z94 (by decide) .nil (fun x hx=>Nat.zero_lt_one) g_z94
def overC (l:List Mo):Prop:=∃ m∈l,1000000000<m.1∨∃ x∈m.2.1,100<x.2.1
noncomputable def doneE (l:List Mo):Int:=if boolOf (overC l)=true then 2 else if 400<l.length then 3 else 0
noncomputable def doneV (l:List Mo):List Mo:=if boolOf (overC l)=true then [] else if 400<l.length then [] else l
theorem done_yes {l:List Mo} (h:overC l):[]=doneV l∧2=doneE l:=by unfold doneV doneE;rw [boolOf_true.2 h];exact ⟨rfl,rfl⟩
theorem done_no {l:List Mo} (h:¬ overC l):doneV l=(if 400<l.length then [] else l)∧doneE l=if 400<l.length then 3 else 0:=by unfold doneV doneE;rw [boolOf_false.2 h];exact ⟨rfl,rfl⟩
def underC (m:Mo):Prop:=m.1≤1000000000∧∀ x∈m.2.1,x.2.1≤100
@[reducible] noncomputable def S_z92:Spec:={ ins:=(.cons (.d tPoly) .nil),pre:=fun _=>True,alts:=[{ outs:=(.cons (.d tPoly) (.cons (.d tInt) .nil)),res:=(fun x=>(fun l=>(doneV l,doneE l,())) x.1)}]}
noncomputable def c_z92:Cf:=(cf_z92 (Fl []))
theorem g_z92:∀ x,S_z92.pre x→shOK S_z92.ins x→fnGoal c_z92 fn_z92 S_z92 x:=by
 rintro ⟨l,⟨⟩⟩ hpre hok
 clear hpre
 have hln:=shLn_of _ hok;replace hok:=Hd.mk hok;try simp only [shLn,datLn,inRng,lo,hi,maxLen,true_and,and_true] at hln
 first|refine fn_goal (w_head ?_)
 intro Kz kz;(conv=>whnf);(try dsimp+instances only);refine kz _ ?_;clear kz Kz;(conv=>(arg 2;whnf))
 repeat' (first|refine an ?_ ?_|((try refine gm ?_);first|((with_reducible show Kz _);(try dsimp+instances only);(with_reducible refine kz _ ?_);clear kz Kz)|refine st ?_|(refine sr ?_;intro Kz kz;conv=>whnf)|(refine cd ?_;(conv=>arg 2;whnf);refine st ?_)|refine blockK_y (by rfl) ?_|(refine sw ?_;conv=>whnf))|(refine gm ?_;conv=>whnf)|(intro hc;(try dsimp+instances only[Dat,SDat,dflt,Ty.size,keepS,bkUpd,Gv.bk,backS,wayA,maxI,minI,negI]at hc);try simp only[LS]at hc))
 all_goals (try ((fail_if_success refine nl ?_);(try dsimp only[Dat,SDat,dflt,Ty.size,keepS,bkUpd,Gv.bk,backS,wayA,maxI,minI,negI]);(try simp only[LS]);first|done|exact dsc|((try simp only[allP,lo,hi,room,true_and,and_true,implies_true]);(repeat' (first|refine an ?_ ?_|((with_reducible refine preA_t ?_ ?_);rotate_left;exact sameP_t)|intro hv))<;>(try omega))))
 refine w_loop [(4, .d tInt)] [] (fun y=>∃ n:Nat,y.1.1=(n:Int)∧n≤l.length∧∀ m∈l.take n,underC m) (fun y=>l.length - y.1.1.toNat) ?_
 conv=>whnf
 refine And.intro ?_ ?_
 · exact ⟨0,by simp⟩
 rintro ⟨⟨_,⟨⟩⟩,⟨⟩⟩ ⟨n,rfl,hn,hj⟩
 repeat' (first|refine an ?_ ?_|((try refine gm ?_);first|((with_reducible show Kz _);(try dsimp+instances only);(with_reducible refine kz _ ?_);clear kz Kz)|refine st ?_|(refine sr ?_;intro Kz kz;conv=>whnf)|(refine cd ?_;(conv=>arg 2;whnf);refine st ?_)|refine blockK_y (by rfl) ?_|(refine sw ?_;conv=>whnf))|(refine gm ?_;conv=>whnf)|(intro hc;(try dsimp+instances only[Dat,SDat,dflt,Ty.size,keepS,bkUpd,Gv.bk,backS,wayA,maxI,minI,negI]at hc);try simp only[LS]at hc))
 all_goals (try ((fail_if_success refine nl ?_);(try dsimp only[Dat,SDat,dflt,Ty.size,keepS,bkUpd,Gv.bk,backS,wayA,maxI,minI,negI]);(try simp only[LS]);first|done|exact dsc|((try simp only[allP,lo,hi,room,true_and,and_true,implies_true]);(repeat' (first|refine an ?_ ?_|((with_reducible refine preA_t ?_ ?_);rotate_left;exact sameP_t)|intro hv))<;>(try omega))))
 · exact (done_yes ⟨_,getD_mem (l:=l) (d:=((0,[],()):Mo)) (k:=n) (by omega), .inl hc⟩).1
 · exact (done_yes ⟨_,getD_mem (l:=l) (d:=((0,[],()):Mo)) (k:=n) (by omega), .inl hc⟩).2
 · rename_i hcn
   have hgl:(List.getD l n ((0,[],()):Mo)).2.1.length≤2 ^ 63 - 1:=(hok.out.1.2 _ (getD_mem (l:=l) (d:=((0,[],()):Mo)) (k:=n) (by omega))).2.1.1
   refine w_loop [(5, .d tInt)] [] (fun y=>∃ j:Nat,y.1.1=(j:Int)∧j≤(List.getD l n ((0,[],()):Mo)).2.1.length∧∀ x∈(List.getD l n ((0,[],()):Mo)).2.1.take j,x.2.1≤100) (fun y=>(List.getD l n ((0,[],()):Mo)).2.1.length - y.1.1.toNat) ?_
   conv=>whnf
   refine And.intro ?_ ?_
   · exact ⟨0,by simp⟩
   rintro ⟨⟨_,⟨⟩⟩,⟨⟩⟩ ⟨j,rfl,hj2,hx⟩
   have hyes:j<(List.getD l n ((0,[],()):Mo)).2.1.length→100<(List.getD (List.getD l n ((0,[],()):Mo)).2.1 j ((0,0,()):Pw)).2.1→overC l:=fun h1 h2=>⟨_,getD_mem (l:=l) (d:=((0,[],()):Mo)) (k:=n) (by omega), .inr ⟨_,getD_mem (l:=(List.getD l n ((0,[],()):Mo)).2.1) (d:=((0,0,()):Pw)) h1,h2⟩⟩
   have hund:Int.lt 1000000000 (List.getD l n ((0,[],()):Mo)).1→False:=hc
   repeat' (first|refine an ?_ ?_|((try refine gm ?_);first|((with_reducible show Kz _);(try dsimp+instances only);(with_reducible refine kz _ ?_);clear kz Kz)|refine st ?_|(refine sr ?_;intro Kz kz;conv=>whnf)|(refine cd ?_;(conv=>arg 2;whnf);refine st ?_)|refine blockK_y (by rfl) ?_|(refine sw ?_;conv=>whnf))|(refine gm ?_;conv=>whnf)|(intro hc;(try dsimp+instances only[Dat,SDat,dflt,Ty.size,keepS,bkUpd,Gv.bk,backS,wayA,maxI,minI,negI]at hc);try simp only[LS]at hc))
   all_goals (try ((fail_if_success refine nl ?_);(try dsimp only[Dat,SDat,dflt,Ty.size,keepS,bkUpd,Gv.bk,backS,wayA,maxI,minI,negI]);(try simp only[LS]);first|done|exact dsc|((try simp only[allP,lo,hi,room,true_and,and_true,implies_true]);(repeat' (first|refine an ?_ ?_|((with_reducible refine preA_t ?_ ?_);rotate_left;exact sameP_t)|intro hv))<;>(try omega))))
   · exact (done_yes (hyes (by omega) hc)).1
   · exact (done_yes (hyes (by omega) hc)).2
   · exact ⟨j+1,by omega,by omega,all_step (d:=((0,0,()):Pw)) hx (by omega) (Int.not_lt.1 hc)⟩
   · exact ⟨n+1,by omega,by omega,all_step (d:=((0,[],()):Mo)) hj (by omega) ⟨Int.not_lt.1 hund,all_end hx (by omega)⟩⟩
 all_goals
  have hno:¬ overC l:=fun ⟨m,hm,ho⟩=>by
   have hu:underC m:=all_end hj (by omega) m hm
   rcases ho with h|⟨x,hx,h⟩
   · exact absurd hu.1 (Int.not_le.2 h)
   · exact absurd (hu.2 x hx) (Int.not_le.2 h)
  have hd:=done_no hno
  first
   |(rw [hd.1,if_pos (by omega)];done)
   |(rw [hd.2,if_pos (by omega)];done)
   |(rw [hd.1,if_neg (by omega)];done)
   |(rw [hd.2,if_neg (by omega)];done)
theorem ok_z92:SpecOK SP glob fi_z92 S_z92:=mk_ok (c:=c_z92) (tab_ok _) mix_ok wf_z92 (by decide) .nil (fun x hx=>Nat.zero_lt_one) g_z92
end Go.Gv
