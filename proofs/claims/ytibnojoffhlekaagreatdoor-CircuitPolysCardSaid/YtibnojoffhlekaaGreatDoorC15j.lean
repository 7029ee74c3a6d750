/- Chapter 15: the reference's sorted sums. -/
import Derived.Test.YtibnojoffhlekaaGreatDoorC15f
import Derived.Test.YtibnojoffhlekaaGreatDoorP15
set_option linter.all false
namespace Go.Gv
open Go Go.Proofs Go.Proofs.YtibnojoffhlekaaGreatDoor
set_option maxRecDepth 100000
set_option maxHeartbeats 4000000
def insP:List Mo→Mo→List Mo
 |[],m=>[m]
 |x::l,m=>if cmpP x.2.1 m.2.1<0 then x::insP l m else if cmpP x.2.1 m.2.1=0 then (min (x.1+m.1) 1000000001,x.2.1,())::l else m::x::l
def srtM (l:List Mo):Prop:=l.Pairwise fun x y=>cmpP x.2.1 y.2.1<0
def coM (m:Mo):Prop:=0≤m.1∧m.1≤1000000001
theorem insP_hit:∀ {l:List Mo} {m:Mo} {k:Nat},(∀ j,j<k→cmpP (l.getD j ((0,[],()):Mo)).2.1 m.2.1<0)→k<l.length→cmpP (l.getD k ((0,[],()):Mo)).2.1 m.2.1=0→insP l m=l.set k (min ((l.getD k ((0,[],()):Mo)).1+m.1) 1000000001,(l.getD k ((0,[],()):Mo)).2.1,())
 |[],_,_,_,h,_=>by simp at h
 |x::l,m,0,_,_,h=>by
  have h:cmpP x.2.1 m.2.1=0:=h
  simp only [insP,h,Int.lt_irrefl,if_false,if_true,List.set_cons_zero,List.getD_cons_zero]
 |x::l,m,k+1,hj,hk,h=>by
  have h0:cmpP x.2.1 m.2.1<0:=hj 0 (by omega)
  simp only [insP,h0,if_true,List.set_cons_succ,List.getD_cons_succ]
  rw [insP_hit (k:=k) (fun j hjk=>hj (j+1) (by omega)) (by simpa using hk) h]
theorem insP_miss:∀ {l:List Mo} {m:Mo} {k:Nat},(∀ j,j<k→cmpP (l.getD j ((0,[],()):Mo)).2.1 m.2.1<0)→k≤l.length→(k<l.length→0<cmpP (l.getD k ((0,[],()):Mo)).2.1 m.2.1)→insP l m=l.take k++m::l.drop k
 |[],_,k,_,_,_=>by simp [insP]
 |x::l,m,0,_,_,h=>by
  have h:0<cmpP x.2.1 m.2.1:=h (by simp)
  simp only [insP,List.take_zero,List.nil_append,List.drop_zero]
  rw [if_neg (by omega),if_neg (by omega)]
 |x::l,m,k+1,hj,hk,h=>by
  have h0:cmpP x.2.1 m.2.1<0:=hj 0 (by omega)
  simp only [insP,h0,if_true,List.take_succ_cons,List.cons_append,List.drop_succ_cons]
  rw [insP_miss (k:=k) (fun j hjk=>hj (j+1) (by omega)) (by simpa using hk) (fun hlt=>h (by simpa using hlt))]
theorem srt_at {l:List Mo} (h:srtM l) {i j:Nat} (hij:i<j) (hj:j<l.length):cmpP (l.getD i ((0,[],()):Mo)).2.1 (l.getD j ((0,[],()):Mo)).2.1<0:=by
 have:=List.pairwise_iff_getElem.1 h i j (by omega) hj hij
 rw [getD_ok _ (by omega),getD_ok _ hj];exact this
theorem srt_low {l:List Mo} (h:srtM l) {m:Mo} {k:Nat} (hk:k<l.length) (hc:cmpP (l.getD k ((0,[],()):Mo)).2.1 m.2.1<0):∀ j,j<k+1→cmpP (l.getD j ((0,[],()):Mo)).2.1 m.2.1<0:=fun j hj=>by
 rcases Nat.lt_or_ge j k with hlt|hge
 · exact cmpP_trans (srt_at h hlt hk) hc
 · have:j=k:=by omega
   rw [this];exact hc
theorem srt_high {l:List Mo} (h:srtM l) {m:Mo} {k:Nat} (hc:¬ cmpP (l.getD k ((0,[],()):Mo)).2.1 m.2.1<0):∀ j,k≤j→j<l.length→¬ cmpP (l.getD j ((0,[],()):Mo)).2.1 m.2.1<0:=fun j hj hl hn=>by
 rcases Nat.eq_or_lt_of_le hj with rfl|hlt
 · exact hc hn
 · exact hc (cmpP_trans (srt_at h hlt hl) hn)
theorem shift_step {l:List Mo} {w:Mo} {i:Nat} (h0:0<i) (hi:i≤l.length):(l.take i++w::l.drop i).set i ((l.take i++w::l.drop i).getD (i - 1) ((0,[],()):Mo))=l.take (i - 1)++(l.getD (i - 1) ((0,[],()):Mo))::l.drop (i - 1):=by
 have hlt:i - 1<l.length:=by omega
 have e1:(l.take i++w::l.drop i).getD (i - 1) ((0,[],()):Mo)=l.getD (i - 1) ((0,[],()):Mo):=by
  rw [List.getD_eq_getElem?_getD,List.getElem?_append_left (by rw [List.length_take];omega),List.getElem?_take,if_pos (by omega),← List.getD_eq_getElem?_getD]
 rw [e1,List.set_append_right _ _ (by rw [List.length_take];omega),List.length_take,show i - min i l.length=0 by omega,List.set_cons_zero]
 have e2:l.drop (i - 1)=l.getD (i - 1) ((0,[],()):Mo)::l.drop i:=by
  rw [List.drop_eq_getElem_cons hlt,getD_ok _ hlt,show i - 1+1=i by omega]
 have e3:l.take i=l.take (i - 1)++[l.getD (i - 1) ((0,[],()):Mo)]:=by
  have:=List.take_succ_eq_append_getElem hlt
  rw [show i - 1+1=i by omega] at this
  rw [this,getD_ok _ hlt]
 rw [e2,e3,List.append_assoc];rfl
theorem shift_end {l:List Mo} {w m:Mo} {i:Nat} (hi:i≤l.length):(l.take i++w::l.drop i).set i m=l.take i++m::l.drop i:=by
 rw [List.set_append_right _ _ (by rw [List.length_take];omega),List.length_take,show i - min i l.length=0 by omega,List.set_cons_zero]
@[reducible] noncomputable def S_z93:Spec:={ ins:=(.cons (.take tMo) (.cons (.d tMo) .nil)),pre:=(fun x=>(fun l m=>(srtM l∧∀ x∈l,coM x)∧coM m∧List.length l≤1000000) x.1 x.2.1),alts:=[{ outs:=(.cons (.row tMo) .nil),res:=(fun x=>(fun l m=>(insP l m,())) x.1 x.2.1)}]}
noncomputable def c_z93:Cf:=(cf_z93 (Fl [(fi_z88,S_z88)]))
theorem g_z93:∀ x,S_z93.pre x→shOK S_z93.ins x→fnGoal c_z93 fn_z93 S_z93 x:=by
 rintro ⟨l,m,⟨⟩⟩ hpre hok
 try dsimp only [Dat,SDat,dflt,Ty.size,keepS,bkUpd,Gv.bk,backS,wayA,maxI,minI,negI] at hpre
 have hln:=shLn_of _ hok;replace hok:=Hd.mk hok;try simp only [shLn,datLn,inRng,lo,hi,maxLen,true_and,and_true] at hln
 have hs:srtM l:=hpre.1.1
 have hco:∀ x∈l,coM x:=hpre.1.2
 have hm:coM m:=hpre.2.1
 have hl:List.length l≤1000000:=hpre.2.2
 first|refine fn_goal (w_head ?_)
 intro Kz kz;(conv=>whnf);(try dsimp+instances only);refine kz _ ?_;clear kz Kz;(conv=>(arg 2;whnf))
 repeat' (first|refine an ?_ ?_|((try refine gm ?_);first|((with_reducible show Kz _);(try dsimp+instances only);(with_reducible refine kz _ ?_);clear kz Kz)|refine st ?_|(refine sr ?_;intro Kz kz;conv=>whnf)|(refine cd ?_;(conv=>arg 2;whnf);refine st ?_)|refine blockK_y (by rfl) ?_|(refine sw ?_;conv=>whnf))|(refine gm ?_;conv=>whnf)|(intro hc;(try dsimp+instances only[Dat,SDat,dflt,Ty.size,keepS,bkUpd,Gv.bk,backS,wayA,maxI,minI,negI]at hc);try simp only[LS]at hc))
 all_goals (try ((fail_if_success refine nl ?_);(try dsimp only[Dat,SDat,dflt,Ty.size,keepS,bkUpd,Gv.bk,backS,wayA,maxI,minI,negI]);(try simp only[LS]);first|done|exact dsc|((try simp only[allP,lo,hi,room,true_and,and_true,implies_true]);(repeat' (first|refine an ?_ ?_|((with_reducible refine preA_t ?_ ?_);rotate_left;exact sameP_t)|intro hv))<;>(try omega))))
 refine w_loop [(5, .d tInt),(6, .d tInt)] [] (fun y=>∃ a b:Nat,y.1.1=(a:Int)∧y.1.2.1=(b:Int)∧a≤b∧b≤l.length∧(∀ j,j<a→cmpP (l.getD j ((0,[],()):Mo)).2.1 m.2.1<0)∧(∀ j,b≤j→j<l.length→¬ cmpP (l.getD j ((0,[],()):Mo)).2.1 m.2.1<0)) (fun y=>y.1.2.1.toNat - y.1.1.toNat) ?_
 conv=>whnf
 refine And.intro ?_ ?_
 · exact ⟨0,l.length,rfl,rfl,by omega,by omega,by simp,by omega⟩
 rintro ⟨⟨_,_,⟨⟩⟩,⟨⟩⟩ ⟨a,b,rfl,rfl,hab,hb,hlo,hhi⟩
 have hmid:Int.tdiv ((a:Int)+(b:Int)) 2=(((a+b) / 2:Nat):Int):=by rw [Int.tdiv_eq_ediv_of_nonneg (by omega)];omega
 have hma:a≤(a+b) / 2:=by omega
 have hmb:a<b→(a+b) / 2<b:=fun h=>by omega
 have hcl:a<l.length→coM (List.getD l a ((0,[],()):Mo)):=fun h=>hco _ (getD_mem h)
 unfold coM at hcl hm
 repeat' (first|refine an ?_ ?_|((try refine gm ?_);first|((with_reducible show Kz _);(try dsimp+instances only);(with_reducible refine kz _ ?_);clear kz Kz)|refine st ?_|(refine sr ?_;intro Kz kz;conv=>whnf)|(refine cd ?_;(conv=>arg 2;whnf);refine st ?_)|refine blockK_y (by rfl) ?_|(refine sw ?_;conv=>whnf))|(refine gm ?_;conv=>whnf)|(intro hc;(try dsimp+instances only[Dat,SDat,dflt,Ty.size,keepS,bkUpd,Gv.bk,backS,wayA,maxI,minI,negI]at hc);try simp only[LS]at hc))
 all_goals (try ((fail_if_success refine nl ?_);(try dsimp only[Dat,SDat,dflt,Ty.size,keepS,bkUpd,Gv.bk,backS,wayA,maxI,minI,negI]);(try simp only[LS]);first|done|exact dsc|((try simp only[allP,lo,hi,room,true_and,and_true,implies_true]);(repeat' (first|refine an ?_ ?_|((with_reducible refine preA_t ?_ ?_);rotate_left;exact sameP_t)|intro hv))<;>(try omega))))
 all_goals (try rw [hmid] at hc)
 all_goals (try rw [hmid])
 all_goals (try (simp only [hmid,Int.toNat_natCast] at hc ⊢;skip))
 all_goals (first
  |omega
  |exact ⟨(a+b) / 2+1,b,by omega,rfl,by omega,by omega,srt_low hs (by omega) hc,hhi⟩
  |exact ⟨a,(a+b) / 2,rfl,rfl,by omega,by omega,hlo,srt_high hs hc⟩
  |(have:=hcl (by omega);omega)
  |exact (insP_hit hlo (by omega) hc.2).symm
  |skip)
 refine w_loop [(9, .d tInt),(8, .row tMo)] [] (fun y=>∃ (i:Nat) (w:Mo),y.1.1=(i:Int)∧a≤i∧i≤l.length∧(l.take i++w::l.drop i:List Mo)=y.1.2.1) (fun y=>y.1.1.toNat) ?_
 conv=>whnf
 refine And.intro ?_ ?_
 · refine ⟨l.length,((0,[],()):Mo),?_,by omega,by omega,by rw [List.take_length,List.drop_length];rfl⟩
   simp [List.length_append]
 rintro ⟨⟨_,ou,⟨⟩⟩,⟨⟩⟩ ⟨i,w,rfl,hai,hil,hou⟩
 have hou:@Eq (List Mo) (l.take i++w::l.drop i) ou:=hou
 subst hou
 have hd1:(l.take i).length=i:=by rw [List.length_take];omega
 have hd2:(l.drop i).length=l.length - i:=List.length_drop
 have hi1:((i:Int) - 1).toNat=i - 1:=by omega
 repeat' (first|refine an ?_ ?_|((try refine gm ?_);first|((with_reducible show Kz _);(try dsimp+instances only);(with_reducible refine kz _ ?_);clear kz Kz)|refine st ?_|(refine sr ?_;intro Kz kz;conv=>whnf)|(refine cd ?_;(conv=>arg 2;whnf);refine st ?_)|refine blockK_y (by rfl) ?_|(refine sw ?_;conv=>whnf))|(refine gm ?_;conv=>whnf)|(intro hc;(try dsimp+instances only[Dat,SDat,dflt,Ty.size,keepS,bkUpd,Gv.bk,backS,wayA,maxI,minI,negI]at hc);try simp only[LS]at hc))
 all_goals (try ((fail_if_success refine nl ?_);(try dsimp only[Dat,SDat,dflt,Ty.size,keepS,bkUpd,Gv.bk,backS,wayA,maxI,minI,negI]);(try simp only[LS]);first|done|exact dsc|((try simp only[allP,lo,hi,room,true_and,and_true,implies_true]);(repeat' (first|refine an ?_ ?_|((with_reducible refine preA_t ?_ ?_);rotate_left;exact sameP_t)|intro hv))<;>(try omega))))
 all_goals (first
  |omega
  |(have h1:0<i:=by omega
    rw [hi1,shift_step h1 hil]
    exact ⟨i - 1,_,by omega,by omega,by omega,rfl⟩)
  |(have h1:i=a:=by omega
    subst h1
    rw [shift_end hil]
    refine (insP_miss hlo hil (fun h=>?_)).symm
    rename_i h2
    have h3:=hhi i (by omega) h
    have h4:¬ cmpP (List.getD l i ((0,[],()):Mo)).2.1 m.2.1=0:=fun h4=>h2 ⟨by omega,h4⟩
    omega)
  |skip)
theorem ok_z93:SpecOK SP glob fi_z93 S_z93:=mk_ok (c:=c_z93) (tab_ok _) mix_ok wf_z93 (by decide) (.cons ok_z88 .nil) (fun x hx=>Nat.zero_lt_one) g_z93
end Go.Gv
