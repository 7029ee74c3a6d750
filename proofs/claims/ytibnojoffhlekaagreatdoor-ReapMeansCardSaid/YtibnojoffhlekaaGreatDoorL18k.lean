/- Chapter 18: Keep's contract in other words. -/
import Derived.Test.YtibnojoffhlekaaGreatDoorL18
set_option linter.all false
namespace Go.Gv
open Go Go.Proofs Go.Proofs.YtibnojoffhlekaaGreatDoor
set_option maxRecDepth 100000
set_option maxHeartbeats 4000000
theorem SpecOK.sub {P:Program} {gl:Glob} {f:FuncId} {ins outs:Sh} {pre pre':SDat ins→Prop} {res:SDat ins→SDat outs} {upd:SDat ins→SDat (backS ins)} {ro:Bool} (h:SpecOK P gl f { ins:=ins,pre:=pre,alts:=[{ outs:=outs,res:=res,upd:=upd}],ro:=ro}) {sel:SDat ins→Nat} {alts:List (Alt ins)}
    (hp:∀ x,pre' x→pre x∧∃ res' upd',alts[sel x]?=some { outs:=outs,res:=res',upd:=upd'}∧res x=res' x∧upd x=upd' x):SpecOK P gl f { ins:=ins,pre:=pre',sel:=sel,alts:=alts,ro:=ro}:=by
 refine ⟨h.1,fun x hx=>?_⟩
 obtain ⟨h1,res',upd',h0,h2,h3⟩:=hp x hx
 refine ⟨_,h0,fun C β G args hg hz H ha=>?_⟩
 obtain ⟨A,hA,hc⟩:=h.2 x h1
 have hAe:A={ outs:=outs,res:=res,upd:=upd}:=(Option.some.inj hA).symm
 subst hAe
 refine (hc C β G args hg hz H ha).mono fun e w' hr=>?_
 cases e with
 |returned v=>
  obtain ⟨hp',β',G',L,vs,nx,y,ns,ex,nx1,z,ms,ey,nx2,k1,k2,k3,k4,k5,k6,k7,k8,k9,k10,k11,k12,k13⟩:=hr.ex
  refine ⟨⟨hp',β',G',L,vs,nx,y,ns,ex,nx1,z,ms,ey,nx2,k1,k2,k3,k4,k5,k6,k7,k8,k9,k10,k11.trans h2,?_,k13⟩⟩
  rw [k12]
  cases ro with
  |true=>rfl
  |false=>exact h3
 |panicked _=>exact hr
 |outgrown=>exact hr
@[reducible] noncomputable def S_keep_two:Spec:={ ins:=(.cons (.d tCirc) (.cons (.d (.sl tInt)) .nil)),pre:=fun x=>SmallG x.1.1∧List.length x.2.1≤1000000,sel:=fun x=>selB (boolOf (RightP x.1.1 x.2.1)),alts:=[{ outs:=(.cons (.d tCirc) (.cons (.d (.sl tInt)) (.cons (.d tInt) .nil))),res:=fun _=>(([],()),[],(1:Int),())},{ outs:=(.cons (.d tCirc) (.cons (.d (.sl tInt)) (.cons (.d tInt) .nil))),res:=fun x=>((keepG x.1.1 x.2.1,()),keepL x.1.1 x.2.1,(0:Int),())}]}
theorem ok_keep_two:SpecOK SP glob fi_z76 S_keep_two:=SpecOK.sub ok_z76 fun x hx=>⟨hx,by
 by_cases hR:RightP x.1.1 x.2.1
 · have hr:=boolOf_true.2 hR
   refine ⟨_,_,by rw [hr];rfl,?_,rfl⟩
   dsimp only
   rw [if_pos hr,if_pos hr,if_pos hr]
 · have hr:¬ boolOf (RightP x.1.1 x.2.1)=true:=fun h=>hR (boolOf_true.1 h)
   refine ⟨_,_,by rw [Bool.eq_false_iff.2 hr];rfl,?_,rfl⟩
   dsimp only
   rw [if_neg hr,if_neg hr,if_neg hr]⟩
end Go.Gv
