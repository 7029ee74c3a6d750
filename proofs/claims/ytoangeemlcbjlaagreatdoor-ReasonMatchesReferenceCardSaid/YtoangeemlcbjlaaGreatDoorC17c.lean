/- Chapter 17: the program: the search, which calls itself. -/
import Derived.Test.YtoangeemlcbjlaaGreatDoorC17b
set_option linter.all false
namespace Go.Gv
open Go Go.Proofs Go.Proofs.YtoangeemlcbjlaaGreatDoor
set_option maxRecDepth 100000
set_option maxHeartbeats 4000000
structure WPre (gs:List Gate) (kk:Nat) (m:KM) (e:List Is) (i:Int):Prop where
 lo:0≤i
 hi:i<(kk:Int)
 il:i<(gs.length:Int)
 v:ValidC gs
 few:gs.length≤16
 kids:∀ g∈gs,g.2.2.1.length≤20
 em:e=[[]]
 bm:BM gs m
theorem WPre.kid {gs:List Gate} {kk:Nat} {m m1:KM} {e:List Is} {i:Int} (h:WPre gs (kk+1) m e i) (hm:BM gs m1) {j:Nat} (hj:(j:Int)<(((List.getD gs (Int.toNat i) ((0,0,[],()):Gate))).2.2.1.length:Int)):0<kk∧WPre gs kk m1 e (((List.getD gs (Int.toNat i) ((0,0,[],()):Gate))).2.2.1.getD j 0):=by
 have hl:=h.lo
 have hil:=h.il
 have hh:=h.hi
 have hin:((List.getD gs (Int.toNat i) ((0,0,[],()):Gate))).2.2.1.getD j 0∈((List.getD gs (Int.toNat i) ((0,0,[],()):Gate))).2.2.1:=getD_mem (by omega)
 have:=kid_in h.v (show i.toNat<gs.length by omega) hin
 exact ⟨by omega,⟨this.1,by omega,by omega,h.v,h.few,h.kids,h.em,hm⟩⟩
theorem BE.incS {gs:List Gate} {l:List Is} (h:BE gs l) (hf:gs.length≤16):incS l:=fun s hs=>⟨(h s hs).1,by have:=(h s hs).len;omega⟩
theorem BS.sets {gs:List Gate} {l:List Is} (h:BE gs l) (hf:gs.length≤16):∀ s∈l,List.length s≤100000:=fun s hs=>by have:=(h s hs).len;omega
theorem whyF_s (hv:List Bool) (gs:List Gate) (kk:Nat) (m:KM) (b:Bool) (i:Int):whyF hv gs (kk+1) m b i=if (kget m i).isSome=true∨b=true then ((kget m i).getD [],m,b) else endW i (bodyW hv (whyF hv gs kk) m b ((List.getD gs (Int.toNat i) ((0,0,[],()):Gate)))):=rfl
set_option maxHeartbeats 30000000
attribute [local irreducible] whyF
@[reducible] noncomputable def S_z53 (kk:Nat):Spec:={ ins:=(.cons (.d tInt) (.self fi_z53 (.cons (.box (.cons (.map tInt (.sl tIs)) .nil)) (.cons (.box (.cons (.d .bool) .nil)) (.cons (.box (.cons (.d (.sl tGate)) .nil)) (.cons (.box (.cons (.d (.sl tIs)) .nil)) (.cons (.box (.cons (.d (.sl .bool)) .nil)) .nil))))))),pre:=(fun x=>(fun i w=>0<kk∧WPre w.2.2.1.1 kk w.1.1 w.2.2.2.1.1 i) x.1 x.2),alts:=[{ outs:=(.cons (.d (.sl tIs)) .nil),res:=(fun x=>(fun i w=>((whyF w.2.2.2.2.1.1 w.2.2.1.1 kk w.1.1 w.2.1.1 i).1,())) x.1 x.2),upd:=(fun x=>(fun i w=>(i,(((whyF w.2.2.2.2.1.1 w.2.2.1.1 kk w.1.1 w.2.1.1 i).2.1,()),((whyF w.2.2.2.2.1.1 w.2.2.1.1 kk w.1.1 w.2.1.1 i).2.2,()),w.2.2))) x.1 x.2)}]}
noncomputable def c_z53 (kk:Nat):Cf:=cf_z53 (Fl [(fi_z53,S_z53 kk),(fi_z85,S_z85),(fi_z54,S_z54),(fi_z57,S_z57),(fi_z58,S_z58)])
theorem g_z53 (kk:Nat):∀ x,(S_z53 (kk+1)).pre x→shOK (S_z53 (kk+1)).ins x→fnGoal (c_z53 kk) fn_z53 (S_z53 (kk+1)) x:=by
 rintro ⟨(i:Int),⟨(m:KM),⟨⟩⟩,⟨(b:Bool),⟨⟩⟩,⟨(gs:List Gate),⟨⟩⟩,⟨(e:List Is),⟨⟩⟩,⟨(hv:List Bool),⟨⟩⟩,⟨⟩⟩ hpre hok
 try dsimp only [Dat,SDat,dflt,Ty.size,keepS,bkUpd,Gv.bk,backS,wayA,maxI,minI,negI] at hpre
 have hln:=shLn_of _ hok;replace hok:=Hd.mk hok;try simp only [shLn,datLn,inRng,lo,hi,maxLen,true_and,and_true] at hln
 have hp:WPre gs (kk+1) m e i:=hpre.2
 clear hpre
 have hlo:=hp.lo
 have hil:=hp.il
 have hem:=hp.em
 subst hem
 have hg9:gs.length≤16:=hp.few
 have hv9:hv.length≤2 ^ 63 - 1:=hln.2.2.2
 have hilN:i.toNat<gs.length:=by omega
 have hkl9:((List.getD gs (Int.toNat i) ((0,0,[],()):Gate))).2.2.1.length≤20:=hp.kids _ (getD_mem hilN)
 have hW:whyF hv gs (kk+1) m b i=if (kget m i).isSome=true∨b=true then ((kget m i).getD [],m,b) else endW i (bodyW hv (whyF hv gs kk) m b ((List.getD gs (Int.toNat i) ((0,0,[],()):Gate)))):=whyF_s hv gs kk m b i
 have hhit:=fun (c:(kget m i).isSome=true∨b=true)=>show whyF hv gs (kk+1) m b i=((kget m i).getD [],m,b) from by rw [hW,if_pos c]
 have hend:∀ (r:WSt),bodyW hv (whyF hv gs kk) m b ((List.getD gs (Int.toNat i) ((0,0,[],()):Gate)))=r→¬ ((kget m i).isSome=true∨b=true)→whyF hv gs (kk+1) m b i=(r.1,kput r.2.1 i r.1,r.2.2||decide ((400:Int)<(r.1.length:Int))):=fun r hr c=>by rw [hW,if_neg c,hr];rfl
 have hb1:=fun (h1:((List.getD gs (Int.toNat i) ((0,0,[],()):Gate))).1=1)=>show bodyW hv (whyF hv gs kk) m b ((List.getD gs (Int.toNat i) ((0,0,[],()):Gate)))=([[]],m,b) from by unfold bodyW;rw [if_pos h1]
 have hb2:=fun (h1:¬ ((List.getD gs (Int.toNat i) ((0,0,[],()):Gate))).1=1) (h2:((List.getD gs (Int.toNat i) ((0,0,[],()):Gate))).1=2)=>show bodyW hv (whyF hv gs kk) m b ((List.getD gs (Int.toNat i) ((0,0,[],()):Gate)))=(varP hv ((List.getD gs (Int.toNat i) ((0,0,[],()):Gate))).2.1,m,b) from by unfold bodyW;rw [if_neg h1,if_pos h2]
 have hb3:=fun (h1:¬ ((List.getD gs (Int.toNat i) ((0,0,[],()):Gate))).1=1) (h2:¬ ((List.getD gs (Int.toNat i) ((0,0,[],()):Gate))).1=2) (h3:((List.getD gs (Int.toNat i) ((0,0,[],()):Gate))).1=3)=>show bodyW hv (whyF hv gs kk) m b ((List.getD gs (Int.toNat i) ((0,0,[],()):Gate)))=(mins (foldW (whyF hv gs kk) (fun a l=>a++l) ([],m,b) ((List.getD gs (Int.toNat i) ((0,0,[],()):Gate))).2.2.1).1,(foldW (whyF hv gs kk) (fun a l=>a++l) ([],m,b) ((List.getD gs (Int.toNat i) ((0,0,[],()):Gate))).2.2.1).2) from by unfold bodyW;rw [if_neg h1,if_neg h2,if_pos h3]
 have hb4:=fun (h1:¬ ((List.getD gs (Int.toNat i) ((0,0,[],()):Gate))).1=1) (h2:¬ ((List.getD gs (Int.toNat i) ((0,0,[],()):Gate))).1=2) (h3:¬ ((List.getD gs (Int.toNat i) ((0,0,[],()):Gate))).1=3) (h4:((List.getD gs (Int.toNat i) ((0,0,[],()):Gate))).1=4)=>show bodyW hv (whyF hv gs kk) m b ((List.getD gs (Int.toNat i) ((0,0,[],()):Gate)))=foldW (whyF hv gs kk) (fun a l=>mins (pairsU a l)) ([[]],m,b) ((List.getD gs (Int.toNat i) ((0,0,[],()):Gate))).2.2.1 from by unfold bodyW;rw [if_neg h1,if_neg h2,if_neg h3,if_pos h4]
 have hb0:=fun (h1:¬ ((List.getD gs (Int.toNat i) ((0,0,[],()):Gate))).1=1) (h2:¬ ((List.getD gs (Int.toNat i) ((0,0,[],()):Gate))).1=2) (h3:¬ ((List.getD gs (Int.toNat i) ((0,0,[],()):Gate))).1=3) (h4:¬ ((List.getD gs (Int.toNat i) ((0,0,[],()):Gate))).1=4)=>show bodyW hv (whyF hv gs kk) m b ((List.getD gs (Int.toNat i) ((0,0,[],()):Gate)))=([],m,b) from by unfold bodyW;rw [if_neg h1,if_neg h2,if_neg h3,if_neg h4]
 have hvar:((List.getD gs (Int.toNat i) ((0,0,[],()):Gate))).1=2→0≤((List.getD gs (Int.toNat i) ((0,0,[],()):Gate))).2.1:=fun h2=>by
  rcases leaf_kind hp.v hilN (by rw [h2];unfold inner;omega) with e|e|e
  · omega
  · omega
  · exact e.2.1
 have hvp1:=fun (c:((List.getD gs (Int.toNat i) ((0,0,[],()):Gate))).2.1<(hv.length:Int)∧hv.getD ((List.getD gs (Int.toNat i) ((0,0,[],()):Gate))).2.1.toNat false=true)=>show varP hv ((List.getD gs (Int.toNat i) ((0,0,[],()):Gate))).2.1=[[]] from if_pos c
 have hvp2:=fun (c:¬ (((List.getD gs (Int.toNat i) ((0,0,[],()):Gate))).2.1<(hv.length:Int)∧hv.getD ((List.getD gs (Int.toNat i) ((0,0,[],()):Gate))).2.1.toNat false=true))=>show varP hv ((List.getD gs (Int.toNat i) ((0,0,[],()):Gate))).2.1=[[((List.getD gs (Int.toNat i) ((0,0,[],()):Gate))).2.1]] from if_neg c
 have hWb:=fun m b j (hm:BM gs m)=>whyF_bs (h:=hv) hg9 kk m b j hm
 have horb:∀ (b:Bool) (l:List Is),boolOf (b=true∨(400:Int)<(l.length:Int))=(b||decide ((400:Int)<(l.length:Int))):=fun b l=>by rw [boolOf_eq];cases b<;>simp
 first|refine fn_goal (w_head ?_)
 intro Kz kz;(conv=>whnf);(try dsimp+instances only);refine kz _ ?_;clear kz Kz;(conv=>(arg 2;whnf))
 repeat' (first|(with_reducible first|refine an ?_ ?_|((try refine gm ?_);refine st ?_))|((try (with_reducible refine gm ?_));first|((with_reducible show Kz _);(try dsimp+instances only);(with_reducible refine kz _ ?_);clear kz Kz)|((with_reducible refine sr ?_);intro Kz kz;conv=>whnf)|((with_reducible refine cd ?_);(conv=>arg 2;whnf);(with_reducible refine st ?_))|refine blockK_y (by rfl) ?_|((with_reducible refine sw ?_);conv=>whnf))|((with_reducible refine gm ?_);conv=>whnf)|(intro hc;(try dsimp+instances only[Dat,SDat,dflt,Ty.size,keepS,bkUpd,Gv.bk,backS,wayA,maxI,minI,negI]at hc);try simp only[LS]at hc))
 all_goals (try ((fail_if_success (with_reducible refine nl ?_));(try dsimp only[Dat,SDat,dflt,Ty.size,keepS,bkUpd,Gv.bk,backS,wayA,maxI,minI,negI]);(try simp only[LS]);first|done|exact dsc|((try simp only[allP,lo,hi,room,true_and,and_true,implies_true]);(repeat' (first|refine an ?_ ?_|((with_reducible refine preA_t ?_ ?_);rotate_left;exact sameP_t)|intro hv))<;>(try omega))))
 all_goals (try ((fail_if_success refine nl ?_);first|exact hp.lo|exact hp.il|exact hvar (by assumption)|(rw [hhit (by assumption)];done)|(rw [hend _ (hb1 (by assumption)) (by assumption)];try (first|rfl|exact horb b [[]]))|(rw [hend _ (hb2 (by assumption) (by assumption)) (by assumption),hvp1 (by assumption)];try (first|rfl|exact horb b [[]]))|(rw [hend _ (hb2 (by assumption) (by assumption)) (by assumption),hvp2 (by assumption)];try (first|rfl|exact horb b [[((List.getD gs (Int.toNat i) ((0,0,[],()):Gate))).2.1]]))|(rw [hend _ (hb0 (by assumption) (by assumption) (by assumption) (by assumption)) (by assumption)];try (first|rfl|exact horb b []))))
 · refine w_loop [(62, .d tInt),(11, .row tIs)] [(1, .cons (.map tInt (.sl tIs)) .nil),(3, .cons (.d .bool) .nil),(4, .cons (.d (.sl tGate)) .nil),(5, .cons (.d (.sl tIs)) .nil),(6, .cons (.d (.sl .bool)) .nil)] (fun y=>∃ k:Nat,y.1.1=(k:Int)∧k≤((List.getD gs (Int.toNat i) ((0,0,[],()):Gate))).2.2.1.length∧((y.1.2.1,y.2.1.1,y.2.2.1.1):WSt)=foldW (whyF hv gs kk) (fun a l=>a++l) ([],m,b) (((List.getD gs (Int.toNat i) ((0,0,[],()):Gate))).2.2.1.take k)∧y.2.2.2.1.1=gs∧y.2.2.2.2.1.1=[[]]∧y.2.2.2.2.2.1.1=hv) (fun y=>((List.getD gs (Int.toNat i) ((0,0,[],()):Gate))).2.2.1.length - y.1.1.toNat) ?_
   conv=>whnf
   refine And.intro ?_ ?_
   · exact ⟨0,rfl,Nat.zero_le _,rfl,rfl,rfl,rfl⟩
   rintro ⟨⟨_,(acc:List Is),⟨⟩⟩,⟨(m1:KM),⟨⟩⟩,⟨(b1:Bool),⟨⟩⟩,⟨gs1,⟨⟩⟩,⟨e1,⟨⟩⟩,⟨hv1,⟨⟩⟩,⟨⟩⟩ ⟨k,rfl,hk,hF,he1,he2,he3⟩
   have he1:gs=gs1:=he1.symm
   have he2:[[]]=e1:=he2.symm
   have he3:hv=hv1:=he3.symm
   subst he1 he2 he3
   have hF:((acc,m1,b1):WSt)=foldW (whyF _ gs kk) (fun a l=>a++l) ([],m,b) (((List.getD gs (Int.toNat i) ((0,0,[],()):Gate))).2.2.1.take k):=hF
   have f:=foldP_bs (gs:=gs) (W:=whyF _ gs kk) (((List.getD gs (Int.toNat i) ((0,0,[],()):Gate))).2.2.1.take k) [] m b (BE.nil gs) hp.bm fun j _ m b hm=>hWb m b j hm
   rw [← hF] at f
   obtain ⟨f1,f2,f3⟩:=f
   have f2:acc.length≤65536 * 20:=by
    have f2:acc.length≤0+65536 * (((List.getD gs (Int.toNat i) ((0,0,[],()):Gate))).2.2.1.take k).length:=f2
    rw [List.length_take] at f2;omega
   have f1:BE gs acc:=f1
   have f3:BM gs m1:=f3
   have hkid:=fun (h:(k:Int)<(((List.getD gs (Int.toNat i) ((0,0,[],()):Gate))).2.2.1.length:Int))=>hp.kid f3 h
   have hwb:=fun j=>hWb m1 b1 j f3
   have hwl:=fun j=>(hwb j).1.2
   have hfull:=fun (h:¬ (k:Int)<(((List.getD gs (Int.toNat i) ((0,0,[],()):Gate))).2.2.1.length:Int))=>show foldW (whyF _ gs kk) (fun a l=>a++l) ([],m,b) ((List.getD gs (Int.toNat i) ((0,0,[],()):Gate))).2.2.1=(acc,m1,b1) from by
    have e:((List.getD gs (Int.toNat i) ((0,0,[],()):Gate))).2.2.1.take k=((List.getD gs (Int.toNat i) ((0,0,[],()):Gate))).2.2.1:=List.take_of_length_le (by omega)
    rw [e] at hF;exact hF.symm
   repeat' (first|(with_reducible first|refine an ?_ ?_|((try refine gm ?_);refine st ?_))|((try (with_reducible refine gm ?_));first|((with_reducible show Kz _);(try dsimp+instances only);(with_reducible refine kz _ ?_);clear kz Kz)|((with_reducible refine sr ?_);intro Kz kz;conv=>whnf)|((with_reducible refine cd ?_);(conv=>arg 2;whnf);(with_reducible refine st ?_))|refine blockK_y (by rfl) ?_|((with_reducible refine sw ?_);conv=>whnf))|((with_reducible refine gm ?_);conv=>whnf)|(intro hc;(try dsimp+instances only[Dat,SDat,dflt,Ty.size,keepS,bkUpd,Gv.bk,backS,wayA,maxI,minI,negI]at hc);try simp only[LS]at hc))
   all_goals (try ((fail_if_success (with_reducible refine nl ?_));(try dsimp only[Dat,SDat,dflt,Ty.size,keepS,bkUpd,Gv.bk,backS,wayA,maxI,minI,negI]);(try simp only[LS]);first|done|exact dsc|((try simp only[allP,lo,hi,room,true_and,and_true,implies_true]);(repeat' (first|refine an ?_ ?_|((with_reducible refine preA_t ?_ ?_);rotate_left;exact sameP_t)|intro hv))<;>(try omega))))
   all_goals (try (first
    |exact (hkid (by assumption)).2
    |exact (hkid (by assumption)).1
    |(have:=hwl (((List.getD gs (Int.toNat i) ((0,0,[],()):Gate))).2.2.1.getD k 0);omega)
    |exact Int.le_trans (Int.mul_le_mul_of_nonneg_right (Int.ofNat_le.2 (Nat.add_le_add f2 (hwl _))) (by decide)) (by decide)
    |(show List.length acc≤1000000000000;omega)
    |exact (f1.incS hg9 _ (by assumption)).1
    |exact (f1.incS hg9 _ (by assumption)).2
    |exact ⟨k+1,rfl,by omega,by rw [foldW_snoc (by omega),← hF];rfl⟩
    |(rw [hend _ (hb3 (by assumption) (by assumption) (by assumption)) (by assumption),hfull (by assumption)];done)
    |(rw [hend _ (hb3 (by assumption) (by assumption) (by assumption)) (by assumption),hfull (by assumption)];first|rfl|exact horb b1 (mins acc))))
 · refine w_loop [(81, .d tInt),(11, .d (.sl tIs))] [(1, .cons (.map tInt (.sl tIs)) .nil),(3, .cons (.d .bool) .nil),(4, .cons (.d (.sl tGate)) .nil),(5, .cons (.d (.sl tIs)) .nil),(6, .cons (.d (.sl .bool)) .nil)] (fun y=>∃ k:Nat,y.1.1=(k:Int)∧k≤((List.getD gs (Int.toNat i) ((0,0,[],()):Gate))).2.2.1.length∧((y.1.2.1,y.2.1.1,y.2.2.1.1):WSt)=foldW (whyF hv gs kk) (fun a l=>mins (pairsU a l)) ([[]],m,b) (((List.getD gs (Int.toNat i) ((0,0,[],()):Gate))).2.2.1.take k)∧y.2.2.2.1.1=gs∧y.2.2.2.2.1.1=[[]]∧y.2.2.2.2.2.1.1=hv) (fun y=>((List.getD gs (Int.toNat i) ((0,0,[],()):Gate))).2.2.1.length - y.1.1.toNat) ?_
   conv=>whnf
   refine And.intro ?_ ?_
   · exact ⟨0,rfl,Nat.zero_le _,rfl,rfl,rfl,rfl⟩
   rintro ⟨⟨_,(acc:List Is),⟨⟩⟩,⟨(m1:KM),⟨⟩⟩,⟨(b1:Bool),⟨⟩⟩,⟨gs1,⟨⟩⟩,⟨e1,⟨⟩⟩,⟨hv1,⟨⟩⟩,⟨⟩⟩ ⟨k,rfl,hk,hF,he1,he2,he3⟩
   have he1:gs=gs1:=he1.symm
   have he2:[[]]=e1:=he2.symm
   have he3:hv=hv1:=he3.symm
   subst he1 he2 he3
   have hF:((acc,m1,b1):WSt)=foldW (whyF _ gs kk) (fun a l=>mins (pairsU a l)) ([[]],m,b) (((List.getD gs (Int.toNat i) ((0,0,[],()):Gate))).2.2.1.take k):=hF
   have f:=foldT_bs (gs:=gs) hg9 (W:=whyF _ gs kk) (((List.getD gs (Int.toNat i) ((0,0,[],()):Gate))).2.2.1.take k) [[]] m b (BS.empty gs) hp.bm fun j _ m b hm=>hWb m b j hm
   rw [← hF] at f
   obtain ⟨f1,f3⟩:=f
   have f1:BS gs acc:=f1
   have f2:acc.length≤65536:=f1.2
   have f3:BM gs m1:=f3
   have hpl:∀ l:List Is,l.length≤65536→List.length (pairsU acc l)≤1000000000000:=fun l hl=>by
    rw [pairsU_len]
    exact Nat.le_trans (Nat.mul_le_mul f2 hl) (by decide)
   have hkid:=fun (h:(k:Int)<(((List.getD gs (Int.toNat i) ((0,0,[],()):Gate))).2.2.1.length:Int))=>hp.kid f3 h
   have hwb:=fun j=>hWb m1 b1 j f3
   have hwl:=fun j=>(hwb j).1.2
   have hfull:=fun (h:¬ (k:Int)<(((List.getD gs (Int.toNat i) ((0,0,[],()):Gate))).2.2.1.length:Int))=>show foldW (whyF _ gs kk) (fun a l=>mins (pairsU a l)) ([[]],m,b) ((List.getD gs (Int.toNat i) ((0,0,[],()):Gate))).2.2.1=(acc,m1,b1) from by
    have e:((List.getD gs (Int.toNat i) ((0,0,[],()):Gate))).2.2.1.take k=((List.getD gs (Int.toNat i) ((0,0,[],()):Gate))).2.2.1:=List.take_of_length_le (by omega)
    rw [e] at hF;exact hF.symm
   repeat' (first|(with_reducible first|refine an ?_ ?_|((try refine gm ?_);refine st ?_))|((try (with_reducible refine gm ?_));first|((with_reducible show Kz _);(try dsimp+instances only);(with_reducible refine kz _ ?_);clear kz Kz)|((with_reducible refine sr ?_);intro Kz kz;conv=>whnf)|((with_reducible refine cd ?_);(conv=>arg 2;whnf);(with_reducible refine st ?_))|refine blockK_y (by rfl) ?_|((with_reducible refine sw ?_);conv=>whnf))|((with_reducible refine gm ?_);conv=>whnf)|(intro hc;(try dsimp+instances only[Dat,SDat,dflt,Ty.size,keepS,bkUpd,Gv.bk,backS,wayA,maxI,minI,negI]at hc);try simp only[LS]at hc))
   all_goals (try ((fail_if_success (with_reducible refine nl ?_));(try dsimp only[Dat,SDat,dflt,Ty.size,keepS,bkUpd,Gv.bk,backS,wayA,maxI,minI,negI]);(try simp only[LS]);first|done|exact dsc|((try simp only[allP,lo,hi,room,true_and,and_true,implies_true]);(repeat' (first|refine an ?_ ?_|((with_reducible refine preA_t ?_ ?_);rotate_left;exact sameP_t)|intro hv))<;>(try omega))))
   all_goals (try (first
    |exact (hkid (by assumption)).2
    |exact (hkid (by assumption)).1
    |exact f2
    |exact hwl _
    |exact BS.sets f1.1 hg9 _ (by assumption)
    |exact BS.sets (hwb _).1.1 hg9 _ (by assumption)
    |exact hpl _ (hwl _)
    |exact ((BE.pairs f1.1 (hwb _).1.1).incS hg9 _ (by assumption)).1
    |exact ((BE.pairs f1.1 (hwb _).1.1).incS hg9 _ (by assumption)).2
    |exact ⟨k+1,rfl,by omega,by rw [foldW_snoc (by omega),← hF];rfl⟩
    |(rw [hend _ (hb4 (by assumption) (by assumption) (by assumption) (by assumption)) (by assumption),hfull (by assumption)];done)
    |(rw [hend _ (hb4 (by assumption) (by assumption) (by assumption) (by assumption)) (by assumption),hfull (by assumption)];first|rfl|exact horb b1 acc)))
theorem ok_z53:∀ kk,SpecOK SP glob fi_z53 (S_z53 kk)
 |0=>mk_ok (c:=cf_z53 (Fl [])) (tab_ok _) mix_ok wf_z53 (Nat.le_of_ble_eq_true rfl) .nil (fun x hx=>Nat.zero_lt_one) (fun x hx _=>absurd hx.1 (Nat.lt_irrefl 0))
 |kk+1=>mk_ok (c:=c_z53 kk) (tab_ok _) mix_ok wf_z53 (Nat.le_of_ble_eq_true rfl) (.cons (ok_z53 kk) (.cons ok_z85 (.cons ok_z54 (.cons ok_z57 (.cons ok_z58 .nil))))) (fun x hx=>Nat.zero_lt_one) (g_z53 kk)
end Go.Gv
