/- Chapter 15: polynomials: orders, comparisons, validity. -/
import Derived.Test.YtibnojoffhlekaaGreatDoorB0
set_option linter.all false
namespace Go.Gv
open Go Go.Proofs Go.Proofs.YtibnojoffhlekaaGreatDoor
set_option maxRecDepth 100000
set_option maxHeartbeats 4000000
@[reducible] def tPw:Ty:= .st (.cs (.int .i64) (.cs (.int .i64) .nl))
abbrev Pw:Type:=Int × Int × Unit
@[reducible] def tMo:Ty:= .st (.cs (.int .i64) (.cs (.sl tPw) .nl))
abbrev Mo:Type:=Int × List Pw × Unit
@[reducible] def tPoly:Ty:= .sl tMo
def ltPw (x y:Pw):Prop:=x.1<y.1∨x.1=y.1∧x.2.1<y.2.1
instance (x y:Pw):Decidable (ltPw x y):=inferInstanceAs (Decidable (x.1<y.1∨x.1=y.1∧x.2.1<y.2.1))
def cmp1 (x y:Pw):Int:=if ltPw x y then -1 else if x=y then 0 else 1
def cmpP:List Pw→List Pw→Int
 |[],[]=>0
 |[],_::_=> -1
 |_::_,[]=>1
 |x::a,y::b=>if cmp1 x y=0 then cmpP a b else cmp1 x y
theorem cmp1_eq {x y:Pw}:cmp1 x y=0↔x=y:=by
 unfold cmp1
 split
 · rename_i h
   constructor
   · intro e;omega
   · rintro rfl;unfold ltPw at h;omega
 · split<;>simp_all
theorem cmpP_take:∀ {k:Nat} {a b:List Pw},a.take k=b.take k→k≤a.length→k≤b.length→cmpP a b=cmpP (a.drop k) (b.drop k)
 |0,_,_,_,_,_=>rfl
 |k+1,[],_,_,h,_=>by simp at h
 |k+1,_::_,[],_,_,h=>by simp at h
 |k+1,x::a,y::b,h,h1,h2=>by
  simp only [List.take_succ_cons,List.cons.injEq] at h
  obtain ⟨rfl,h⟩:=h
  simp only [List.length_cons] at h1 h2
  simp only [cmpP,cmp1_eq.2 rfl,if_true,List.drop_succ_cons]
  exact cmpP_take h (by omega) (by omega)
theorem cmpP_at {k:Nat} {a b:List Pw} (h:a.take k=b.take k) (h1:k<a.length) (h2:k<b.length) (hn:cmp1 (List.getD a k ((0,0,()):Pw)) (List.getD b k ((0,0,()):Pw))≠0):cmpP a b=cmp1 (List.getD a k ((0,0,()):Pw)) (List.getD b k ((0,0,()):Pw)):=by
 rw [cmpP_take h (by omega) (by omega),List.drop_eq_getElem_cons h1,List.drop_eq_getElem_cons h2]
 rw [getD_ok _ h1,getD_ok _ h2] at hn ⊢
 simp only [cmpP,hn,if_false]
theorem cmpP_lt {k:Nat} {a b:List Pw} (h:a.take k=b.take k) (h1:a.length≤k) (hk:k≤a.length) (h2:a.length<b.length):cmpP a b= -1:=by
 rw [cmpP_take h (by omega) (by omega),List.drop_eq_nil_of_le h1,List.drop_eq_getElem_cons (by omega)];rfl
theorem cmpP_gt {k:Nat} {a b:List Pw} (h:a.take k=b.take k) (h1:b.length≤k) (hk:k≤b.length) (h2:b.length<a.length):cmpP a b=1:=by
 rw [cmpP_take h (by omega) (by omega),List.drop_eq_nil_of_le h1,List.drop_eq_getElem_cons (by omega)];rfl
theorem cmpP_same (a:List Pw):cmpP a a=0:=by
 rw [cmpP_take (k:=a.length) rfl (by omega) (by omega),List.drop_length];rfl
@[reducible] noncomputable def S_z88:Spec:={ ins:=(.cons (.d (.sl tPw)) (.cons (.d (.sl tPw)) .nil)),pre:=fun _=>True,alts:=[{ outs:=(.cons (.d tInt) .nil),res:=(fun x=>(fun a b=>(cmpP a b,())) x.1 x.2.1)}]}
noncomputable def c_z88:Cf:=(cf_z88 (Fl []))
theorem g_z88:∀ x,S_z88.pre x→shOK S_z88.ins x→fnGoal c_z88 fn_z88 S_z88 x:=by
 rintro ⟨a,b,⟨⟩⟩ hpre hok
 clear hpre
 have hln:=shLn_of _ hok;replace hok:=Hd.mk hok;try simp only [shLn,datLn,inRng,lo,hi,maxLen,true_and,and_true] at hln
 first|refine fn_goal (w_head ?_)
 intro Kz kz;(conv=>whnf);(try dsimp+instances only);refine kz _ ?_;clear kz Kz;(conv=>(arg 2;whnf))
 repeat' (first|refine an ?_ ?_|((try refine gm ?_);first|((with_reducible show Kz _);(try dsimp+instances only);(with_reducible refine kz _ ?_);clear kz Kz)|refine st ?_|(refine sr ?_;intro Kz kz;conv=>whnf)|(refine cd ?_;(conv=>arg 2;whnf);refine st ?_)|refine blockK_y (by rfl) ?_|(refine sw ?_;conv=>whnf))|(refine gm ?_;conv=>whnf)|(intro hc;(try dsimp+instances only[Dat,SDat,dflt,Ty.size,keepS,bkUpd,Gv.bk,backS,wayA,maxI,minI,negI]at hc);try simp only[LS]at hc))
 all_goals (try ((fail_if_success refine nl ?_);(try dsimp only[Dat,SDat,dflt,Ty.size,keepS,bkUpd,Gv.bk,backS,wayA,maxI,minI,negI]);(try simp only[LS]);first|done|exact dsc|((try simp only[allP,lo,hi,room,true_and,and_true,implies_true]);(repeat' (first|refine an ?_ ?_|((with_reducible refine preA_t ?_ ?_);rotate_left;exact sameP_t)|intro hv))<;>(try omega))))
 refine w_loop [(5, .d tInt)] [] (fun y=>∃ k:Nat,y.1.1=(k:Int)∧k≤a.length∧k≤b.length∧a.take k=b.take k) (fun y=>a.length - y.1.1.toNat) ?_
 conv=>whnf
 refine And.intro ?_ ?_
 · exact ⟨0,by simp⟩
 rintro ⟨⟨_,⟨⟩⟩,⟨⟩⟩ ⟨k,rfl,hk,hk2,hj⟩
 repeat' (first|refine an ?_ ?_|((try refine gm ?_);first|((with_reducible show Kz _);(try dsimp+instances only);(with_reducible refine kz _ ?_);clear kz Kz)|refine st ?_|(refine sr ?_;intro Kz kz;conv=>whnf)|(refine cd ?_;(conv=>arg 2;whnf);refine st ?_)|refine blockK_y (by rfl) ?_|(refine sw ?_;conv=>whnf))|(refine gm ?_;conv=>whnf)|(intro hc;(try dsimp+instances only[Dat,SDat,dflt,Ty.size,keepS,bkUpd,Gv.bk,backS,wayA,maxI,minI,negI]at hc);try simp only[LS]at hc))
 all_goals (try ((fail_if_success refine nl ?_);(try dsimp only[Dat,SDat,dflt,Ty.size,keepS,bkUpd,Gv.bk,backS,wayA,maxI,minI,negI]);(try simp only[LS]);first|done|exact dsc|((try simp only[allP,lo,hi,room,true_and,and_true,implies_true]);(repeat' (first|refine an ?_ ?_|((with_reducible refine preA_t ?_ ?_);rotate_left;exact sameP_t)|intro hv))<;>(try omega))))
 · have e:cmp1 (List.getD a k ((0,0,()):Pw)) (List.getD b k ((0,0,()):Pw))= -1:=if_pos hc
   rw [cmpP_at hj (by omega) (by omega) (by rw [e];decide),e]
 · rename_i h1 h2
   have e:cmp1 (List.getD a k ((0,0,()):Pw)) (List.getD b k ((0,0,()):Pw))=1:=(if_neg h2).trans (if_neg hc)
   rw [cmpP_at hj (by omega) (by omega) (by rw [e];decide),e]
 · exact ⟨k+1,by omega,by omega,by omega,take_eq_step hj (by omega) (by omega) hc⟩
 · exact (cmpP_lt hj (by omega) hk (by omega)).symm
 · exact (cmpP_gt hj (by omega) hk2 (by omega)).symm
 · have:a=b:=take_eq_end hj (by omega) (by omega)
   subst this
   exact (cmpP_same a).symm
def okAt (l:List Pw) (j:Nat):Prop:=0≤(l.getD j ((0,0,()):Pw)).1∧(l.getD j ((0,0,()):Pw)).1<4000∧1≤(l.getD j ((0,0,()):Pw)).2.1∧(l.getD j ((0,0,()):Pw)).2.1≤100∧(0<j→(l.getD (j - 1) ((0,0,()):Pw)).1<(l.getD j ((0,0,()):Pw)).1)
def okP (l:List Pw):Prop:=∀ j,j<l.length→okAt l j
def okM (p:List Mo) (i:Nat):Prop:=1≤(p.getD i ((0,[],()):Mo)).1∧(p.getD i ((0,[],()):Mo)).1≤1000000000∧(0<i→cmpP (p.getD (i - 1) ((0,[],()):Mo)).2.1 (p.getD i ((0,[],()):Mo)).2.1<0)∧okP (p.getD i ((0,[],()):Mo)).2.1
def ValidP (p:List Mo):Prop:=p.length≤400∧∀ i,i<p.length→okM p i
@[reducible] noncomputable def S_z90:Spec:={ ins:=(.cons (.d tPoly) .nil),pre:=fun _=>True,alts:=[{ outs:=(.cons (.d .bool) .nil),res:=(fun x=>(fun p=>(boolOf (ValidP p),())) x.1)}]}
noncomputable def c_z90:Cf:=(cf_z90 (Fl [(fi_z88,S_z88)]))
theorem g_z90:∀ x,S_z90.pre x→shOK S_z90.ins x→fnGoal c_z90 fn_z90 S_z90 x:=by
 rintro ⟨p,⟨⟩⟩ hpre hok
 clear hpre
 have hln:=shLn_of _ hok;replace hok:=Hd.mk hok;try simp only [shLn,datLn,inRng,lo,hi,maxLen,true_and,and_true] at hln
 first|refine fn_goal (w_head ?_)
 intro Kz kz;(conv=>whnf);(try dsimp+instances only);refine kz _ ?_;clear kz Kz;(conv=>(arg 2;whnf))
 repeat' (first|refine an ?_ ?_|((try refine gm ?_);first|((with_reducible show Kz _);(try dsimp+instances only);(with_reducible refine kz _ ?_);clear kz Kz)|refine st ?_|(refine sr ?_;intro Kz kz;conv=>whnf)|(refine cd ?_;(conv=>arg 2;whnf);refine st ?_)|refine blockK_y (by rfl) ?_|(refine sw ?_;conv=>whnf))|(refine gm ?_;conv=>whnf)|(intro hc;(try dsimp+instances only[Dat,SDat,dflt,Ty.size,keepS,bkUpd,Gv.bk,backS,wayA,maxI,minI,negI]at hc);try simp only[LS]at hc))
 all_goals (try ((fail_if_success refine nl ?_);(try dsimp only[Dat,SDat,dflt,Ty.size,keepS,bkUpd,Gv.bk,backS,wayA,maxI,minI,negI]);(try simp only[LS]);first|done|exact dsc|((try simp only[allP,lo,hi,room,true_and,and_true,implies_true]);(repeat' (first|refine an ?_ ?_|((with_reducible refine preA_t ?_ ?_);rotate_left;exact sameP_t)|intro hv))<;>(try omega))))
 rotate_left
 refine w_loop [(3, .d tInt)] [] (fun y=>∃ n:Nat,y.1.1=(n:Int)∧n≤p.length∧∀ m,m<n→okM p m) (fun y=>p.length - y.1.1.toNat) ?_
 conv=>whnf
 refine And.intro ?_ ?_
 · exact ⟨0,by simp⟩
 rintro ⟨⟨_,⟨⟩⟩,⟨⟩⟩ ⟨n,rfl,hn,hG⟩
 repeat' (first|refine an ?_ ?_|((try refine gm ?_);first|((with_reducible show Kz _);(try dsimp+instances only);(with_reducible refine kz _ ?_);clear kz Kz)|refine st ?_|(refine sr ?_;intro Kz kz;conv=>whnf)|(refine cd ?_;(conv=>arg 2;whnf);refine st ?_)|refine blockK_y (by rfl) ?_|(refine sw ?_;conv=>whnf))|(refine gm ?_;conv=>whnf)|(intro hc;(try dsimp+instances only[Dat,SDat,dflt,Ty.size,keepS,bkUpd,Gv.bk,backS,wayA,maxI,minI,negI]at hc);try simp only[LS]at hc))
 all_goals (try ((fail_if_success refine nl ?_);(try dsimp only[Dat,SDat,dflt,Ty.size,keepS,bkUpd,Gv.bk,backS,wayA,maxI,minI,negI]);(try simp only[LS]);first|done|exact dsc|((try simp only[allP,lo,hi,room,true_and,and_true,implies_true]);(repeat' (first|refine an ?_ ?_|((with_reducible refine preA_t ?_ ?_);rotate_left;exact sameP_t)|intro hv))<;>(try omega))))
 · refine bF fun h=>?_
   have:=h.2 n (by omega)
   unfold okM at this
   have e:((n:Int) - 1).toNat=n - 1:=by omega
   rw [e] at hc
   omega
 · have e:((n:Int) - 1).toNat=n - 1:=by omega
   rw [e] at hc
   have hgl:(List.getD p n ((0,[],()):Mo)).2.1.length≤2 ^ 63 - 1:=(hok.out.1.2 _ (getD_mem (l:=p) (d:=((0,[],()):Mo)) (k:=n) (by omega))).2.1.1
   refine w_loop [(4, .d tInt)] [] (fun y=>∃ j:Nat,y.1.1=(j:Int)∧j≤(List.getD p n ((0,[],()):Mo)).2.1.length∧∀ i,i<j→okAt (List.getD p n ((0,[],()):Mo)).2.1 i) (fun y=>(List.getD p n ((0,[],()):Mo)).2.1.length - y.1.1.toNat) ?_
   conv=>whnf
   refine And.intro ?_ ?_
   · exact ⟨0,by simp⟩
   rintro ⟨⟨_,⟨⟩⟩,⟨⟩⟩ ⟨j,rfl,hj,hK⟩
   repeat' (first|refine an ?_ ?_|((try refine gm ?_);first|((with_reducible show Kz _);(try dsimp+instances only);(with_reducible refine kz _ ?_);clear kz Kz)|refine st ?_|(refine sr ?_;intro Kz kz;conv=>whnf)|(refine cd ?_;(conv=>arg 2;whnf);refine st ?_)|refine blockK_y (by rfl) ?_|(refine sw ?_;conv=>whnf))|(refine gm ?_;conv=>whnf)|(intro hc;(try dsimp+instances only[Dat,SDat,dflt,Ty.size,keepS,bkUpd,Gv.bk,backS,wayA,maxI,minI,negI]at hc);try simp only[LS]at hc))
   all_goals (try ((fail_if_success refine nl ?_);(try dsimp only[Dat,SDat,dflt,Ty.size,keepS,bkUpd,Gv.bk,backS,wayA,maxI,minI,negI]);(try simp only[LS]);first|done|exact dsc|((try simp only[allP,lo,hi,room,true_and,and_true,implies_true]);(repeat' (first|refine an ?_ ?_|((with_reducible refine preA_t ?_ ?_);rotate_left;exact sameP_t)|intro hv))<;>(try omega))))
   · refine bF fun h=>?_
     have h1:=(h.2 n (by omega)).2.2.2 j (by omega)
     unfold okAt at h1
     have e2:((j:Int) - 1).toNat=j - 1:=by omega
     rw [e2] at hc
     omega
   · refine ⟨j+1,by omega,by omega,lt_step hK ?_⟩
     have e2:((j:Int) - 1).toNat=j - 1:=by omega
     rw [e2] at hc
     unfold okAt
     omega
   · refine ⟨n+1,by omega,by omega,lt_step hG ?_⟩
     rename_i h1 h2
     unfold okM
     refine ⟨by omega,by omega,by omega,fun i hi=>hK i (by omega)⟩
 · exact bT ⟨by omega,fun i hi=>hG i (by omega)⟩
 · exact bF fun h=>by have:=h.1;omega
@[reducible] noncomputable def S_z89:Spec:={ ins:=(.cons (.d tPoly) (.cons (.d tPoly) .nil)),pre:=fun _=>True,alts:=[{ outs:=(.cons (.d .bool) .nil),res:=(fun x=>(fun a b=>(decide (a=b),())) x.1 x.2.1)}]}
noncomputable def c_z89:Cf:=(cf_z89 (Fl []))
theorem g_z89:∀ x,S_z89.pre x→shOK S_z89.ins x→fnGoal c_z89 fn_z89 S_z89 x:=by
 rintro ⟨a,b,⟨⟩⟩ hpre hok
 clear hpre
 have hln:=shLn_of _ hok;replace hok:=Hd.mk hok;try simp only [shLn,datLn,inRng,lo,hi,maxLen,true_and,and_true] at hln
 first|refine fn_goal (w_head ?_)
 intro Kz kz;(conv=>whnf);(try dsimp+instances only);refine kz _ ?_;clear kz Kz;(conv=>(arg 2;whnf))
 repeat' (first|refine an ?_ ?_|((try refine gm ?_);first|((with_reducible show Kz _);(try dsimp+instances only);(with_reducible refine kz _ ?_);clear kz Kz)|refine st ?_|(refine sr ?_;intro Kz kz;conv=>whnf)|(refine cd ?_;(conv=>arg 2;whnf);refine st ?_)|refine blockK_y (by rfl) ?_|(refine sw ?_;conv=>whnf))|(refine gm ?_;conv=>whnf)|(intro hc;(try dsimp+instances only[Dat,SDat,dflt,Ty.size,keepS,bkUpd,Gv.bk,backS,wayA,maxI,minI,negI]at hc);try simp only[LS]at hc))
 all_goals (try ((fail_if_success refine nl ?_);(try dsimp only[Dat,SDat,dflt,Ty.size,keepS,bkUpd,Gv.bk,backS,wayA,maxI,minI,negI]);(try simp only[LS]);first|done|exact dsc|((try simp only[allP,lo,hi,room,true_and,and_true,implies_true]);(repeat' (first|refine an ?_ ?_|((with_reducible refine preA_t ?_ ?_);rotate_left;exact sameP_t)|intro hv))<;>(try omega))))
 rotate_left
 refine w_loop [(5, .d tInt)] [] (fun y=>∃ k:Nat,y.1.1=(k:Int)∧k≤a.length∧a.take k=b.take k) (fun y=>a.length - y.1.1.toNat) ?_
 conv=>whnf
 refine And.intro ?_ ?_
 · exact ⟨0,by simp⟩
 rintro ⟨⟨_,⟨⟩⟩,⟨⟩⟩ ⟨k,rfl,hk,hj⟩
 repeat' (first|refine an ?_ ?_|((try refine gm ?_);first|((with_reducible show Kz _);(try dsimp+instances only);(with_reducible refine kz _ ?_);clear kz Kz)|refine st ?_|(refine sr ?_;intro Kz kz;conv=>whnf)|(refine cd ?_;(conv=>arg 2;whnf);refine st ?_)|refine blockK_y (by rfl) ?_|(refine sw ?_;conv=>whnf))|(refine gm ?_;conv=>whnf)|(intro hc;(try dsimp+instances only[Dat,SDat,dflt,Ty.size,keepS,bkUpd,Gv.bk,backS,wayA,maxI,minI,negI]at hc);try simp only[LS]at hc))
 all_goals (try ((fail_if_success refine nl ?_);(try dsimp only[Dat,SDat,dflt,Ty.size,keepS,bkUpd,Gv.bk,backS,wayA,maxI,minI,negI]);(try simp only[LS]);first|done|exact dsc|((try simp only[allP,lo,hi,room,true_and,and_true,implies_true]);(repeat' (first|refine an ?_ ?_|((with_reducible refine preA_t ?_ ?_);rotate_left;exact sameP_t)|intro hv))<;>(try omega))))
 · have:a≠b:=by rintro rfl;simp at hc
   simp [this]
 · have hgl:(List.getD a k ((0,[],()):Mo)).2.1.length≤2 ^ 63 - 1:=(hok.out.1.2 _ (getD_mem (l:=a) (d:=((0,[],()):Mo)) (k:=k) (by omega))).2.1.1
   refine w_loop [(6, .d tInt)] [] (fun y=>∃ j:Nat,y.1.1=(j:Int)∧j≤(List.getD a k ((0,[],()):Mo)).2.1.length∧(List.getD a k ((0,[],()):Mo)).2.1.take j=(List.getD b k ((0,[],()):Mo)).2.1.take j) (fun y=>(List.getD a k ((0,[],()):Mo)).2.1.length - y.1.1.toNat) ?_
   conv=>whnf
   refine And.intro ?_ ?_
   · exact ⟨0,by simp⟩
   rintro ⟨⟨_,⟨⟩⟩,⟨⟩⟩ ⟨j,rfl,hj2,hK⟩
   repeat' (first|refine an ?_ ?_|((try refine gm ?_);first|((with_reducible show Kz _);(try dsimp+instances only);(with_reducible refine kz _ ?_);clear kz Kz)|refine st ?_|(refine sr ?_;intro Kz kz;conv=>whnf)|(refine cd ?_;(conv=>arg 2;whnf);refine st ?_)|refine blockK_y (by rfl) ?_|(refine sw ?_;conv=>whnf))|(refine gm ?_;conv=>whnf)|(intro hc;(try dsimp+instances only[Dat,SDat,dflt,Ty.size,keepS,bkUpd,Gv.bk,backS,wayA,maxI,minI,negI]at hc);try simp only[LS]at hc))
   all_goals (try ((fail_if_success refine nl ?_);(try dsimp only[Dat,SDat,dflt,Ty.size,keepS,bkUpd,Gv.bk,backS,wayA,maxI,minI,negI]);(try simp only[LS]);first|done|exact dsc|((try simp only[allP,lo,hi,room,true_and,and_true,implies_true]);(repeat' (first|refine an ?_ ?_|((with_reducible refine preA_t ?_ ?_);rotate_left;exact sameP_t)|intro hv))<;>(try omega))))
   · have:a≠b:=by rintro rfl;simp at hc
     simp [this]
   · exact ⟨j+1,by omega,by omega,take_eq_step hK (by omega) (by omega) hc⟩
   · refine ⟨k+1,by omega,by omega,take_eq_step (d:=((0,[],()):Mo)) hj (by omega) (by omega) ?_⟩
     rename_i h0 h1 h2
     have h3:=not_or.1 h2
     have e1:=Classical.not_not.1 h3.1
     have e3:=Classical.not_not.1 h3.2
     have e2:(List.getD a k ((0,[],()):Mo)).2.1=(List.getD b k ((0,[],()):Mo)).2.1:=take_eq_end hK (by omega) (by omega)
     exact Prod.ext e1 (Prod.ext e2 rfl)
 · have:a=b:=take_eq_end hj (by omega) (by omega)
   simp [this]
 · have:a≠b:=by rintro rfl;simp at hc
   simp [this]
theorem ok_z89:SpecOK SP glob fi_z89 S_z89:=mk_ok (c:=c_z89) (tab_ok _) mix_ok wf_z89 (by decide) .nil (fun x hx=>Nat.zero_lt_one) g_z89
@[reducible] noncomputable def S_z91:Spec:={ ins:=(.cons (.d tInt) .nil),pre:=fun _=>True,alts:=[{ outs:=(.cons (.d tPoly) (.cons (.d tInt) .nil)),res:=(fun x=>(fun v=>((if v<0∨4000≤v then [] else [(1,[(v,1,())],())]),(if v<0∨4000≤v then 1 else 0),())) x.1)}]}
noncomputable def c_z91:Cf:=(cf_z91 (Fl []))
theorem g_z91:∀ x,S_z91.pre x→shOK S_z91.ins x→fnGoal c_z91 fn_z91 S_z91 x:=by
 rintro ⟨v,⟨⟩⟩ hpre hok
 clear hpre
 have hln:=shLn_of _ hok;replace hok:=Hd.mk hok;try simp only [shLn,datLn,inRng,lo,hi,maxLen,true_and,and_true] at hln
 first|refine fn_goal (w_head ?_)
 intro Kz kz;(conv=>whnf);(try dsimp+instances only);refine kz _ ?_;clear kz Kz;(conv=>(arg 2;whnf))
 repeat' (first|refine an ?_ ?_|((try refine gm ?_);first|((with_reducible show Kz _);(try dsimp+instances only);(with_reducible refine kz _ ?_);clear kz Kz)|refine st ?_|(refine sr ?_;intro Kz kz;conv=>whnf)|(refine cd ?_;(conv=>arg 2;whnf);refine st ?_)|refine blockK_y (by rfl) ?_|(refine sw ?_;conv=>whnf))|(refine gm ?_;conv=>whnf)|(intro hc;(try dsimp+instances only[Dat,SDat,dflt,Ty.size,keepS,bkUpd,Gv.bk,backS,wayA,maxI,minI,negI]at hc);try simp only[LS]at hc))
 all_goals (try ((fail_if_success refine nl ?_);(try dsimp only[Dat,SDat,dflt,Ty.size,keepS,bkUpd,Gv.bk,backS,wayA,maxI,minI,negI]);(try simp only[LS]);first|done|exact dsc|((try simp only[allP,lo,hi,room,true_and,and_true,implies_true]);(repeat' (first|refine an ?_ ?_|((with_reducible refine preA_t ?_ ?_);rotate_left;exact sameP_t)|intro hv))<;>(try omega))))
 all_goals (first|rw [if_pos hc]|rw [if_neg hc])
@[reducible] noncomputable def S_z86:Spec:={ ins:=(.cons (.d tInt) .nil),pre:=fun _=>True,alts:=[{ outs:=(.cons (.d tPoly) (.cons (.d tInt) .nil)),res:=(fun x=>(fun n=>((if n<0∨1000000000<n then [] else if n=0 then [] else [(n,[],())]),(if n<0∨1000000000<n then 1 else 0),())) x.1)}]}
noncomputable def c_z86:Cf:=(cf_z86 (Fl []))
theorem g_z86:∀ x,S_z86.pre x→shOK S_z86.ins x→fnGoal c_z86 fn_z86 S_z86 x:=by
 rintro ⟨n,⟨⟩⟩ hpre hok
 clear hpre
 have hln:=shLn_of _ hok;replace hok:=Hd.mk hok;try simp only [shLn,datLn,inRng,lo,hi,maxLen,true_and,and_true] at hln
 first|refine fn_goal (w_head ?_)
 intro Kz kz;(conv=>whnf);(try dsimp+instances only);refine kz _ ?_;clear kz Kz;(conv=>(arg 2;whnf))
 repeat' (first|refine an ?_ ?_|((try refine gm ?_);first|((with_reducible show Kz _);(try dsimp+instances only);(with_reducible refine kz _ ?_);clear kz Kz)|refine st ?_|(refine sr ?_;intro Kz kz;conv=>whnf)|(refine cd ?_;(conv=>arg 2;whnf);refine st ?_)|refine blockK_y (by rfl) ?_|(refine sw ?_;conv=>whnf))|(refine gm ?_;conv=>whnf)|(intro hc;(try dsimp+instances only[Dat,SDat,dflt,Ty.size,keepS,bkUpd,Gv.bk,backS,wayA,maxI,minI,negI]at hc);try simp only[LS]at hc))
 all_goals (try ((fail_if_success refine nl ?_);(try dsimp only[Dat,SDat,dflt,Ty.size,keepS,bkUpd,Gv.bk,backS,wayA,maxI,minI,negI]);(try simp only[LS]);first|done|exact dsc|((try simp only[allP,lo,hi,room,true_and,and_true,implies_true]);(repeat' (first|refine an ?_ ?_|((with_reducible refine preA_t ?_ ?_);rotate_left;exact sameP_t)|intro hv))<;>(try omega))))
 all_goals (first|(rename_i h1;rw [if_neg h1,if_neg hc];done)|(rename_i h1;rw [if_neg h1,if_pos hc];done)|rw [if_pos hc])
@[reducible] noncomputable def S_z29:Spec:={ ins:=(.cons (.d tInt) .nil),pre:=fun _=>True,alts:=[{ outs:=(.cons (.d .bool) .nil),res:=(fun x=>(fun x=>(false,())) x.1)}]}
noncomputable def c_z29:Cf:=(cf_z29 (Fl []))
theorem g_z29:∀ x,S_z29.pre x→shOK S_z29.ins x→fnGoal c_z29 fn_z29 S_z29 x:=by
 rintro ⟨x,⟨⟩⟩ hpre hok
 clear hpre
 have hln:=shLn_of _ hok;replace hok:=Hd.mk hok;try simp only [shLn,datLn,inRng,lo,hi,maxLen,true_and,and_true] at hln
 first|refine fn_goal (w_head ?_)
 intro Kz kz;(conv=>whnf);(try dsimp+instances only);refine kz _ ?_;clear kz Kz;(conv=>(arg 2;whnf))
 repeat' (first|refine an ?_ ?_|((try refine gm ?_);first|((with_reducible show Kz _);(try dsimp+instances only);(with_reducible refine kz _ ?_);clear kz Kz)|refine st ?_|(refine sr ?_;intro Kz kz;conv=>whnf)|(refine cd ?_;(conv=>arg 2;whnf);refine st ?_)|refine blockK_y (by rfl) ?_|(refine sw ?_;conv=>whnf))|(refine gm ?_;conv=>whnf)|(intro hc;(try dsimp+instances only[Dat,SDat,dflt,Ty.size,keepS,bkUpd,Gv.bk,backS,wayA,maxI,minI,negI]at hc);try simp only[LS]at hc))
 all_goals (try ((fail_if_success refine nl ?_);(try dsimp only[Dat,SDat,dflt,Ty.size,keepS,bkUpd,Gv.bk,backS,wayA,maxI,minI,negI]);(try simp only[LS]);first|done|exact dsc|((try simp only[allP,lo,hi,room,true_and,and_true,implies_true]);(repeat' (first|refine an ?_ ?_|((with_reducible refine preA_t ?_ ?_);rotate_left;exact sameP_t)|intro hv))<;>(try omega))))
theorem ok_z29:SpecOK SP glob fi_z29 S_z29:=mk_ok (c:=c_z29) (tab_ok _) mix_ok wf_z29 (by decide) .nil (fun x hx=>Nat.zero_lt_one) g_z29
@[reducible] noncomputable def S_z26:Spec:={ ins:=(.cons (.d tInt) (.cons (.d tInt) .nil)),pre:=fun _=>True,alts:=[{ outs:=(.cons (.d tInt) .nil),res:=(fun x=>(fun x y=>((if x<y then -1 else if y<x then 1 else 0),())) x.1 x.2.1)}]}
noncomputable def c_z26:Cf:=(cf_z26 (Fl [(fi_z29,S_z29)]))
theorem g_z26:∀ x,S_z26.pre x→shOK S_z26.ins x→fnGoal c_z26 fn_z26 S_z26 x:=by
 rintro ⟨x,y,⟨⟩⟩ hpre hok
 clear hpre
 have hln:=shLn_of _ hok;replace hok:=Hd.mk hok;try simp only [shLn,datLn,inRng,lo,hi,maxLen,true_and,and_true] at hln
 first|refine fn_goal (w_head ?_)
 intro Kz kz;(conv=>whnf);(try dsimp+instances only);refine kz _ ?_;clear kz Kz;(conv=>(arg 2;whnf))
 repeat' (first|refine an ?_ ?_|((try refine gm ?_);first|((with_reducible show Kz _);(try dsimp+instances only);(with_reducible refine kz _ ?_);clear kz Kz)|refine st ?_|(refine sr ?_;intro Kz kz;conv=>whnf)|(refine cd ?_;(conv=>arg 2;whnf);refine st ?_)|refine blockK_y (by rfl) ?_|(refine sw ?_;conv=>whnf))|(refine gm ?_;conv=>whnf)|(intro hc;(try dsimp+instances only[Dat,SDat,dflt,Ty.size,keepS,bkUpd,Gv.bk,backS,wayA,maxI,minI,negI]at hc);try simp only[LS]at hc))
 all_goals (try ((fail_if_success refine nl ?_);(try dsimp only[Dat,SDat,dflt,Ty.size,keepS,bkUpd,Gv.bk,backS,wayA,maxI,minI,negI]);(try simp only[LS]);first|done|exact dsc|((try simp only[allP,lo,hi,room,true_and,and_true,implies_true]);(repeat' (first|refine an ?_ ?_|((with_reducible refine preA_t ?_ ?_);rotate_left;exact sameP_t)|intro hv))<;>(try omega))))
 all_goals (first|(exfalso;simp at *;done)|(split<;>first|rfl|omega|(split<;>first|rfl|omega)))
theorem ok_z26:SpecOK SP glob fi_z26 S_z26:=mk_ok (c:=c_z26) (tab_ok _) mix_ok wf_z26 (by decide) (.cons ok_z29 .nil) (fun x hx=>Nat.zero_lt_one) g_z26
def orL:List Int→Int
 |[]=>0
 |x::l=>if x=0 then orL l else x
theorem orL_drop:∀ {k:Nat} {l:List Int},(∀ x∈l.take k,x=0)→orL l=orL (l.drop k)
 |0,_,_=>rfl
 |k+1,[],_=>rfl
 |k+1,x::l,h=>by
  have h1:=h x (by simp)
  simp only [orL,h1,if_true,List.drop_succ_cons]
  exact orL_drop fun y hy=>h y (by simp [hy])
@[reducible] noncomputable def S_z28:Spec:={ ins:=(.cons (.d (.sl tInt)) .nil),pre:=fun _=>True,alts:=[{ outs:=(.cons (.d tInt) .nil),res:=(fun x=>(fun l=>(orL l,())) x.1)}]}
noncomputable def c_z28:Cf:=(cf_z28 (Fl []))
theorem g_z28:∀ x,S_z28.pre x→shOK S_z28.ins x→fnGoal c_z28 fn_z28 S_z28 x:=by
 rintro ⟨l,⟨⟩⟩ hpre hok
 clear hpre
 have hln:=shLn_of _ hok;replace hok:=Hd.mk hok;try simp only [shLn,datLn,inRng,lo,hi,maxLen,true_and,and_true] at hln
 first|refine fn_goal (w_head ?_)
 intro Kz kz;(conv=>whnf);(try dsimp+instances only);refine kz _ ?_;clear kz Kz;(conv=>(arg 2;whnf))
 repeat' (first|refine an ?_ ?_|((try refine gm ?_);first|((with_reducible show Kz _);(try dsimp+instances only);(with_reducible refine kz _ ?_);clear kz Kz)|refine st ?_|(refine sr ?_;intro Kz kz;conv=>whnf)|(refine cd ?_;(conv=>arg 2;whnf);refine st ?_)|refine blockK_y (by rfl) ?_|(refine sw ?_;conv=>whnf))|(refine gm ?_;conv=>whnf)|(intro hc;(try dsimp+instances only[Dat,SDat,dflt,Ty.size,keepS,bkUpd,Gv.bk,backS,wayA,maxI,minI,negI]at hc);try simp only[LS]at hc))
 all_goals (try ((fail_if_success refine nl ?_);(try dsimp only[Dat,SDat,dflt,Ty.size,keepS,bkUpd,Gv.bk,backS,wayA,maxI,minI,negI]);(try simp only[LS]);first|done|exact dsc|((try simp only[allP,lo,hi,room,true_and,and_true,implies_true]);(repeat' (first|refine an ?_ ?_|((with_reducible refine preA_t ?_ ?_);rotate_left;exact sameP_t)|intro hv))<;>(try omega))))
 refine w_loop [(8, .d tInt)] [] (fun y=>∃ k:Nat,y.1.1=(k:Int)∧k≤l.length∧∀ x∈l.take k,x=0) (fun y=>l.length - y.1.1.toNat) ?_
 conv=>whnf
 refine And.intro ?_ ?_
 · exact ⟨0,by simp⟩
 rintro ⟨⟨_,⟨⟩⟩,⟨⟩⟩ ⟨k,rfl,hk,hj⟩
 repeat' (first|refine an ?_ ?_|((try refine gm ?_);first|((with_reducible show Kz _);(try dsimp+instances only);(with_reducible refine kz _ ?_);clear kz Kz)|refine st ?_|(refine sr ?_;intro Kz kz;conv=>whnf)|(refine cd ?_;(conv=>arg 2;whnf);refine st ?_)|refine blockK_y (by rfl) ?_|(refine sw ?_;conv=>whnf))|(refine gm ?_;conv=>whnf)|(intro hc;(try dsimp+instances only[Dat,SDat,dflt,Ty.size,keepS,bkUpd,Gv.bk,backS,wayA,maxI,minI,negI]at hc);try simp only[LS]at hc))
 all_goals (try ((fail_if_success refine nl ?_);(try dsimp only[Dat,SDat,dflt,Ty.size,keepS,bkUpd,Gv.bk,backS,wayA,maxI,minI,negI]);(try simp only[LS]);first|done|exact dsc|((try simp only[allP,lo,hi,room,true_and,and_true,implies_true]);(repeat' (first|refine an ?_ ?_|((with_reducible refine preA_t ?_ ?_);rotate_left;exact sameP_t)|intro hv))<;>(try omega))))
 · have h1:k<l.length:=by omega
   rw [getD_ok _ h1] at hc ⊢
   rw [orL_drop hj,List.drop_eq_getElem_cons h1]
   simp only [orL,hc,if_false]
 · exact ⟨k+1,by omega,by omega,all_step (d:=(0:Int)) hj (by omega) hc⟩
 · rw [orL_drop hj,List.drop_eq_nil_of_le (by omega)];rfl
theorem ok_z28:SpecOK SP glob fi_z28 S_z28:=mk_ok (c:=c_z28) (tab_ok _) mix_ok wf_z28 (by decide) .nil (fun x hx=>Nat.zero_lt_one) g_z28
@[reducible] noncomputable def S_z70:Spec:={ ins:=(.cons (.d tPw) (.cons (.d tPw) .nil)),pre:=fun _=>True,alts:=[{ outs:=(.cons (.d tInt) .nil),res:=(fun x=>(fun x y=>(cmp1 x y,())) x.1 x.2.1)}]}
noncomputable def c_z70:Cf:=(cf_z70 (Fl [(fi_z26,S_z26),(fi_z28,S_z28)]))
theorem g_z70:∀ x,S_z70.pre x→shOK S_z70.ins x→fnGoal c_z70 fn_z70 S_z70 x:=by
 rintro ⟨x,y,⟨⟩⟩ hpre hok
 clear hpre
 have hln:=shLn_of _ hok;replace hok:=Hd.mk hok;try simp only [shLn,datLn,inRng,lo,hi,maxLen,true_and,and_true] at hln
 first|refine fn_goal (w_head ?_)
 intro Kz kz;(conv=>whnf);(try dsimp+instances only);refine kz _ ?_;clear kz Kz;(conv=>(arg 2;whnf))
 repeat' (first|refine an ?_ ?_|((try refine gm ?_);first|((with_reducible show Kz _);(try dsimp+instances only);(with_reducible refine kz _ ?_);clear kz Kz)|refine st ?_|(refine sr ?_;intro Kz kz;conv=>whnf)|(refine cd ?_;(conv=>arg 2;whnf);refine st ?_)|refine blockK_y (by rfl) ?_|(refine sw ?_;conv=>whnf))|(refine gm ?_;conv=>whnf)|(intro hc;(try dsimp+instances only[Dat,SDat,dflt,Ty.size,keepS,bkUpd,Gv.bk,backS,wayA,maxI,minI,negI]at hc);try simp only[LS]at hc))
 all_goals (try ((fail_if_success refine nl ?_);(try dsimp only[Dat,SDat,dflt,Ty.size,keepS,bkUpd,Gv.bk,backS,wayA,maxI,minI,negI]);(try simp only[LS]);first|done|exact dsc|((try simp only[allP,lo,hi,room,true_and,and_true,implies_true]);(repeat' (first|refine an ?_ ?_|((with_reducible refine preA_t ?_ ?_);rotate_left;exact sameP_t)|intro hv))<;>(try omega))))
 obtain ⟨x1,x2,⟨⟩⟩:=x
 obtain ⟨y1,y2,⟨⟩⟩:=y
 simp only [orL,cmp1,ltPw,Prod.mk.injEq,and_true]
 grind
theorem ok_z70:SpecOK SP glob fi_z70 S_z70:=mk_ok (c:=c_z70) (tab_ok _) mix_ok wf_z70 (by decide) (.cons ok_z26 (.cons ok_z28 .nil)) (fun x hx=>Nat.zero_lt_one) g_z70
@[reducible] noncomputable def S_z113:Spec:={ ins:=(.cons (.d (.sl tPw)) (.cons (.d (.sl tPw)) (.cons (.clos fi_z70 .nil) .nil))),pre:=fun _=>True,alts:=[{ outs:=(.cons (.d tInt) .nil),res:=(fun x=>(fun a b c=>(cmpP a b,())) x.1 x.2.1 x.2.2.1)}]}
noncomputable def c_z113:Cf:=(cf_z113 (Fl [(fi_z70,S_z70)]))
theorem g_z113:∀ x,S_z113.pre x→shOK S_z113.ins x→fnGoal c_z113 fn_z113 S_z113 x:=by
 rintro ⟨a,b,c,⟨⟩⟩ hpre hok
 clear hpre
 have hln:=shLn_of _ hok;replace hok:=Hd.mk hok;try simp only [shLn,datLn,inRng,lo,hi,maxLen,true_and,and_true] at hln
 first|refine fn_goal (w_head ?_)
 intro Kz kz;(conv=>whnf);(try dsimp+instances only);refine kz _ ?_;clear kz Kz;(conv=>(arg 2;whnf))
 repeat' (first|refine an ?_ ?_|((try refine gm ?_);first|((with_reducible show Kz _);(try dsimp+instances only);(with_reducible refine kz _ ?_);clear kz Kz)|refine st ?_|(refine sr ?_;intro Kz kz;conv=>whnf)|(refine cd ?_;(conv=>arg 2;whnf);refine st ?_)|refine blockK_y (by rfl) ?_|(refine sw ?_;conv=>whnf))|(refine gm ?_;conv=>whnf)|(intro hc;(try dsimp+instances only[Dat,SDat,dflt,Ty.size,keepS,bkUpd,Gv.bk,backS,wayA,maxI,minI,negI]at hc);try simp only[LS]at hc))
 all_goals (try ((fail_if_success refine nl ?_);(try dsimp only[Dat,SDat,dflt,Ty.size,keepS,bkUpd,Gv.bk,backS,wayA,maxI,minI,negI]);(try simp only[LS]);first|done|exact dsc|((try simp only[allP,lo,hi,room,true_and,and_true,implies_true]);(repeat' (first|refine an ?_ ?_|((with_reducible refine preA_t ?_ ?_);rotate_left;exact sameP_t)|intro hv))<;>(try omega))))
 refine w_loop [(13, .d tInt)] [] (fun y=>∃ k:Nat,y.1.1=(k:Int)∧k≤a.length∧k≤b.length∧a.take k=b.take k) (fun y=>a.length - y.1.1.toNat) ?_
 conv=>whnf
 refine And.intro ?_ ?_
 · exact ⟨0,by simp⟩
 rintro ⟨⟨_,⟨⟩⟩,⟨⟩⟩ ⟨k,rfl,hk,hk2,hj⟩
 repeat' (first|refine an ?_ ?_|((try refine gm ?_);first|((with_reducible show Kz _);(try dsimp+instances only);(with_reducible refine kz _ ?_);clear kz Kz)|refine st ?_|(refine sr ?_;intro Kz kz;conv=>whnf)|(refine cd ?_;(conv=>arg 2;whnf);refine st ?_)|refine blockK_y (by rfl) ?_|(refine sw ?_;conv=>whnf))|(refine gm ?_;conv=>whnf)|(intro hc;(try dsimp+instances only[Dat,SDat,dflt,Ty.size,keepS,bkUpd,Gv.bk,backS,wayA,maxI,minI,negI]at hc);try simp only[LS]at hc))
 all_goals (try ((fail_if_success refine nl ?_);(try dsimp only[Dat,SDat,dflt,Ty.size,keepS,bkUpd,Gv.bk,backS,wayA,maxI,minI,negI]);(try simp only[LS]);first|done|exact dsc|((try simp only[allP,lo,hi,room,true_and,and_true,implies_true]);(repeat' (first|refine an ?_ ?_|((with_reducible refine preA_t ?_ ?_);rotate_left;exact sameP_t)|intro hv))<;>(try omega))))
 · exact (cmpP_gt hj (by omega) hk2 (by omega)).symm
 · have h:cmp1 (List.getD a k ((0,0,()):Pw)) (List.getD b k ((0,0,()):Pw))≠0:=hc
   exact (cmpP_at hj (by omega) (by omega) h).symm
 · exact ⟨k+1,by omega,by omega,by omega,take_eq_step hj (by omega) (by omega) (cmp1_eq.1 hc)⟩
 · exact (cmpP_lt hj (by omega) hk (by omega)).symm
 · have:a=b:=take_eq_end hj (by omega) (by omega)
   subst this
   exact (cmpP_same a).symm
theorem ok_z113:SpecOK SP glob fi_z113 S_z113:=mk_ok (c:=c_z113) (tab_ok _) mix_ok wf_z113 (by decide) (.cons ok_z70 .nil) (fun x hx=>Nat.zero_lt_one) g_z113
@[reducible] noncomputable def S_z69:Spec:={ ins:=(.cons (.d (.sl tPw)) (.cons (.d (.sl tPw)) .nil)),pre:=fun _=>True,alts:=[{ outs:=(.cons (.d tInt) .nil),res:=(fun x=>(fun a b=>(cmpP a b,())) x.1 x.2.1)}]}
noncomputable def c_z69:Cf:=(cf_z69 (Fl [(fi_z113,S_z113)]))
theorem g_z69:∀ x,S_z69.pre x→shOK S_z69.ins x→fnGoal c_z69 fn_z69 S_z69 x:=by
 rintro ⟨a,b,⟨⟩⟩ hpre hok
 clear hpre
 have hln:=shLn_of _ hok;replace hok:=Hd.mk hok;try simp only [shLn,datLn,inRng,lo,hi,maxLen,true_and,and_true] at hln
 first|refine fn_goal (w_head ?_)
 intro Kz kz;(conv=>whnf);(try dsimp+instances only);refine kz _ ?_;clear kz Kz;(conv=>(arg 2;whnf))
 repeat' (first|refine an ?_ ?_|((try refine gm ?_);first|((with_reducible show Kz _);(try dsimp+instances only);(with_reducible refine kz _ ?_);clear kz Kz)|refine st ?_|(refine sr ?_;intro Kz kz;conv=>whnf)|(refine cd ?_;(conv=>arg 2;whnf);refine st ?_)|refine blockK_y (by rfl) ?_|(refine sw ?_;conv=>whnf))|(refine gm ?_;conv=>whnf)|(intro hc;(try dsimp+instances only[Dat,SDat,dflt,Ty.size,keepS,bkUpd,Gv.bk,backS,wayA,maxI,minI,negI]at hc);try simp only[LS]at hc))
 all_goals (try ((fail_if_success refine nl ?_);(try dsimp only[Dat,SDat,dflt,Ty.size,keepS,bkUpd,Gv.bk,backS,wayA,maxI,minI,negI]);(try simp only[LS]);first|done|exact dsc|((try simp only[allP,lo,hi,room,true_and,and_true,implies_true]);(repeat' (first|refine an ?_ ?_|((with_reducible refine preA_t ?_ ?_);rotate_left;exact sameP_t)|intro hv))<;>(try omega))))
theorem ok_z69:SpecOK SP glob fi_z69 S_z69:=mk_ok (c:=c_z69) (tab_ok _) mix_ok wf_z69 (by decide) (.cons ok_z113 .nil) (fun x hx=>Nat.zero_lt_one) g_z69
@[reducible] noncomputable def S_z66:Spec:={ ins:=(.cons (.d tPoly) .nil),pre:=fun _=>True,alts:=[{ outs:=(.cons (.d .bool) .nil),res:=(fun x=>(fun p=>(boolOf (ValidP p),())) x.1)}]}
noncomputable def c_z66:Cf:=(cf_z66 (Fl [(fi_z69,S_z69)]))
theorem g_z66:∀ x,S_z66.pre x→shOK S_z66.ins x→fnGoal c_z66 fn_z66 S_z66 x:=by
 rintro ⟨p,⟨⟩⟩ hpre hok
 clear hpre
 have hln:=shLn_of _ hok;replace hok:=Hd.mk hok;try simp only [shLn,datLn,inRng,lo,hi,maxLen,true_and,and_true] at hln
 first|refine fn_goal (w_head ?_)
 intro Kz kz;(conv=>whnf);(try dsimp+instances only);refine kz _ ?_;clear kz Kz;(conv=>(arg 2;whnf))
 repeat' (first|refine an ?_ ?_|((try refine gm ?_);first|((with_reducible show Kz _);(try dsimp+instances only);(with_reducible refine kz _ ?_);clear kz Kz)|refine st ?_|(refine sr ?_;intro Kz kz;conv=>whnf)|(refine cd ?_;(conv=>arg 2;whnf);refine st ?_)|refine blockK_y (by rfl) ?_|(refine sw ?_;conv=>whnf))|(refine gm ?_;conv=>whnf)|(intro hc;(try dsimp+instances only[Dat,SDat,dflt,Ty.size,keepS,bkUpd,Gv.bk,backS,wayA,maxI,minI,negI]at hc);try simp only[LS]at hc))
 all_goals (try ((fail_if_success refine nl ?_);(try dsimp only[Dat,SDat,dflt,Ty.size,keepS,bkUpd,Gv.bk,backS,wayA,maxI,minI,negI]);(try simp only[LS]);first|done|exact dsc|((try simp only[allP,lo,hi,room,true_and,and_true,implies_true]);(repeat' (first|refine an ?_ ?_|((with_reducible refine preA_t ?_ ?_);rotate_left;exact sameP_t)|intro hv))<;>(try omega))))
 refine w_loop [(10, .d tInt)] [] (fun y=>∃ n:Nat,y.1.1=(n:Int)∧n≤p.length∧∀ m,m<n→okM p m) (fun y=>p.length - y.1.1.toNat) ?_
 conv=>whnf
 refine And.intro ?_ ?_
 · exact ⟨0,by simp⟩
 rintro ⟨⟨_,⟨⟩⟩,⟨⟩⟩ ⟨n,rfl,hn,hG⟩
 repeat' (first|refine an ?_ ?_|((try refine gm ?_);first|((with_reducible show Kz _);(try dsimp+instances only);(with_reducible refine kz _ ?_);clear kz Kz)|refine st ?_|(refine sr ?_;intro Kz kz;conv=>whnf)|(refine cd ?_;(conv=>arg 2;whnf);refine st ?_)|refine blockK_y (by rfl) ?_|(refine sw ?_;conv=>whnf))|(refine gm ?_;conv=>whnf)|(intro hc;(try dsimp+instances only[Dat,SDat,dflt,Ty.size,keepS,bkUpd,Gv.bk,backS,wayA,maxI,minI,negI]at hc);try simp only[LS]at hc))
 all_goals (try ((fail_if_success refine nl ?_);(try dsimp only[Dat,SDat,dflt,Ty.size,keepS,bkUpd,Gv.bk,backS,wayA,maxI,minI,negI]);(try simp only[LS]);first|done|exact dsc|((try simp only[allP,lo,hi,room,true_and,and_true,implies_true]);(repeat' (first|refine an ?_ ?_|((with_reducible refine preA_t ?_ ?_);rotate_left;exact sameP_t)|intro hv))<;>(try omega))))
 · refine bF fun h=>?_
   have:=h.2 n (by omega)
   unfold okM at this
   have e:((n:Int) - 1).toNat=n - 1:=by omega
   rw [e] at hc
   omega
 · have e:((n:Int) - 1).toNat=n - 1:=by omega
   rw [e] at hc
   have hgl:(List.getD p n ((0,[],()):Mo)).2.1.length≤2 ^ 63 - 1:=(hok.out.1.2 _ (getD_mem (l:=p) (d:=((0,[],()):Mo)) (k:=n) (by omega))).2.1.1
   refine w_loop [(5, .d tInt),(42, .d tInt)] [] (fun y=>∃ j:Nat,y.1.2.1=(j:Int)∧j≤(List.getD p n ((0,[],()):Mo)).2.1.length∧(∀ i,i<j→okAt (List.getD p n ((0,[],()):Mo)).2.1 i)∧y.1.1=if j=0 then -1 else ((List.getD p n ((0,[],()):Mo)).2.1.getD (j - 1) ((0,0,()):Pw)).1) (fun y=>(List.getD p n ((0,[],()):Mo)).2.1.length - y.1.2.1.toNat) ?_
   conv=>whnf
   refine And.intro ?_ ?_
   · exact ⟨0,by simp⟩
   rintro ⟨⟨la,_,⟨⟩⟩,⟨⟩⟩ ⟨j,rfl,hj,hK,hL⟩
   have hL:@Eq Int la (if j=0 then -1 else ((List.getD p n ((0,[],()):Mo)).2.1.getD (j - 1) ((0,0,()):Pw)).1):=hL
   repeat' (first|refine an ?_ ?_|((try refine gm ?_);first|((with_reducible show Kz _);(try dsimp+instances only);(with_reducible refine kz _ ?_);clear kz Kz)|refine st ?_|(refine sr ?_;intro Kz kz;conv=>whnf)|(refine cd ?_;(conv=>arg 2;whnf);refine st ?_)|refine blockK_y (by rfl) ?_|(refine sw ?_;conv=>whnf))|(refine gm ?_;conv=>whnf)|(intro hc;(try dsimp+instances only[Dat,SDat,dflt,Ty.size,keepS,bkUpd,Gv.bk,backS,wayA,maxI,minI,negI]at hc);try simp only[LS]at hc))
   all_goals (try ((fail_if_success refine nl ?_);(try dsimp only[Dat,SDat,dflt,Ty.size,keepS,bkUpd,Gv.bk,backS,wayA,maxI,minI,negI]);(try simp only[LS]);first|done|exact dsc|((try simp only[allP,lo,hi,room,true_and,and_true,implies_true]);(repeat' (first|refine an ?_ ?_|((with_reducible refine preA_t ?_ ?_);rotate_left;exact sameP_t)|intro hv))<;>(try omega))))
   · refine bF fun h=>?_
     have h1:=(h.2 n (by omega)).2.2.2 j (by omega)
     unfold okAt at h1
     rcases Nat.eq_zero_or_pos j with rfl|h0
     · rw [if_pos rfl] at hL;omega
     · rw [if_neg (by omega)] at hL;omega
   · refine ⟨j+1,by omega,by omega,lt_step hK ?_,?_⟩
     · unfold okAt
       rcases Nat.eq_zero_or_pos j with rfl|h0
       · rw [if_pos rfl] at hL;omega
       · rw [if_neg (by omega)] at hL
         have h9:=hK (j - 1) (by omega)
         unfold okAt at h9
         omega
     · rw [if_neg (by omega)];rfl
   · refine ⟨n+1,by omega,by omega,lt_step hG ?_⟩
     rename_i h1 h2
     unfold okM
     refine ⟨by omega,by omega,by omega,fun i hi=>hK i (by omega)⟩
 · exact bC ⟨fun h=>⟨by omega,fun i hi=>hG i (by omega)⟩,fun h=>by have:=h.1;omega⟩
theorem ok_z66:SpecOK SP glob fi_z66 S_z66:=mk_ok (c:=c_z66) (tab_ok _) mix_ok wf_z66 (by decide) (.cons ok_z69 .nil) (fun x hx=>Nat.zero_lt_one) g_z66
@[reducible] noncomputable def S_z67:Spec:={ ins:=(.cons (.d tInt) .nil),pre:=fun _=>True,alts:=[{ outs:=(.cons (.d tPoly) (.cons (.d tInt) .nil)),res:=(fun x=>(fun v=>((if v<0∨4000≤v then [] else [(1,[(v,1,())],())]),(if v<0∨4000≤v then 1 else 0),())) x.1)}]}
noncomputable def c_z67:Cf:=(cf_z67 (Fl []))
theorem g_z67:∀ x,S_z67.pre x→shOK S_z67.ins x→fnGoal c_z67 fn_z67 S_z67 x:=by
 rintro ⟨v,⟨⟩⟩ hpre hok
 clear hpre
 have hln:=shLn_of _ hok;replace hok:=Hd.mk hok;try simp only [shLn,datLn,inRng,lo,hi,maxLen,true_and,and_true] at hln
 first|refine fn_goal (w_head ?_)
 intro Kz kz;(conv=>whnf);(try dsimp+instances only);refine kz _ ?_;clear kz Kz;(conv=>(arg 2;whnf))
 repeat' (first|refine an ?_ ?_|((try refine gm ?_);first|((with_reducible show Kz _);(try dsimp+instances only);(with_reducible refine kz _ ?_);clear kz Kz)|refine st ?_|(refine sr ?_;intro Kz kz;conv=>whnf)|(refine cd ?_;(conv=>arg 2;whnf);refine st ?_)|refine blockK_y (by rfl) ?_|(refine sw ?_;conv=>whnf))|(refine gm ?_;conv=>whnf)|(intro hc;(try dsimp+instances only[Dat,SDat,dflt,Ty.size,keepS,bkUpd,Gv.bk,backS,wayA,maxI,minI,negI]at hc);try simp only[LS]at hc))
 all_goals (try ((fail_if_success refine nl ?_);(try dsimp only[Dat,SDat,dflt,Ty.size,keepS,bkUpd,Gv.bk,backS,wayA,maxI,minI,negI]);(try simp only[LS]);first|done|exact dsc|((try simp only[allP,lo,hi,room,true_and,and_true,implies_true]);(repeat' (first|refine an ?_ ?_|((with_reducible refine preA_t ?_ ?_);rotate_left;exact sameP_t)|intro hv))<;>(try omega))))
 all_goals (first|rw [if_pos hc]|rw [if_neg hc])
theorem ok_z67:SpecOK SP glob fi_z67 S_z67:=mk_ok (c:=c_z67) (tab_ok _) mix_ok wf_z67 (by decide) .nil (fun x hx=>Nat.zero_lt_one) g_z67
@[reducible] noncomputable def S_z62:Spec:={ ins:=(.cons (.d tInt) .nil),pre:=fun _=>True,alts:=[{ outs:=(.cons (.d tPoly) (.cons (.d tInt) .nil)),res:=(fun x=>(fun n=>((if n<0∨1000000000<n then [] else if n=0 then [] else [(n,[],())]),(if n<0∨1000000000<n then 1 else 0),())) x.1)}]}
noncomputable def c_z62:Cf:=(cf_z62 (Fl []))
theorem g_z62:∀ x,S_z62.pre x→shOK S_z62.ins x→fnGoal c_z62 fn_z62 S_z62 x:=by
 rintro ⟨n,⟨⟩⟩ hpre hok
 clear hpre
 have hln:=shLn_of _ hok;replace hok:=Hd.mk hok;try simp only [shLn,datLn,inRng,lo,hi,maxLen,true_and,and_true] at hln
 first|refine fn_goal (w_head ?_)
 intro Kz kz;(conv=>whnf);(try dsimp+instances only);refine kz _ ?_;clear kz Kz;(conv=>(arg 2;whnf))
 repeat' (first|refine an ?_ ?_|((try refine gm ?_);first|((with_reducible show Kz _);(try dsimp+instances only);(with_reducible refine kz _ ?_);clear kz Kz)|refine st ?_|(refine sr ?_;intro Kz kz;conv=>whnf)|(refine cd ?_;(conv=>arg 2;whnf);refine st ?_)|refine blockK_y (by rfl) ?_|(refine sw ?_;conv=>whnf))|(refine gm ?_;conv=>whnf)|(intro hc;(try dsimp+instances only[Dat,SDat,dflt,Ty.size,keepS,bkUpd,Gv.bk,backS,wayA,maxI,minI,negI]at hc);try simp only[LS]at hc))
 all_goals (try ((fail_if_success refine nl ?_);(try dsimp only[Dat,SDat,dflt,Ty.size,keepS,bkUpd,Gv.bk,backS,wayA,maxI,minI,negI]);(try simp only[LS]);first|done|exact dsc|((try simp only[allP,lo,hi,room,true_and,and_true,implies_true]);(repeat' (first|refine an ?_ ?_|((with_reducible refine preA_t ?_ ?_);rotate_left;exact sameP_t)|intro hv))<;>(try omega))))
 all_goals (first|(rename_i h1;rw [if_neg h1,if_neg hc];done)|(rename_i h1;rw [if_neg h1,if_pos hc];done)|rw [if_pos hc])
theorem ok_z62:SpecOK SP glob fi_z62 S_z62:=mk_ok (c:=c_z62) (tab_ok _) mix_ok wf_z62 (by decide) .nil (fun x hx=>Nat.zero_lt_one) g_z62
end Go.Gv
