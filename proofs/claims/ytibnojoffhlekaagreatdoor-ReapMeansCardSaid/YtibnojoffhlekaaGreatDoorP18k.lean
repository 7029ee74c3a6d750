/- The plain law of what is kept: values of roots stay. -/
import Derived.Test.YtibnojoffhlekaaGreatDoorL18m
import Derived.Test.YtibnojoffhlekaaGreatDoorP16i
set_option linter.all false
namespace Go.Gv
open Go Go.Proofs Go.Proofs.YtibnojoffhlekaaGreatDoor
set_option maxRecDepth 100000
set_option maxHeartbeats 4000000
variable {T:Type}
theorem rch_reach {gs:List Gate} {R:List Int} (hV:ValidC gs) {r:Int} (hr:r∈R) (h0:r.toNat<gs.length) {k:Nat} (h:Rch gs r.toNat k):Reach gs R k:=by
 induction h with
 |base=>exact .root hr
 |kid hq hj ih=>exact .kid ih (by have:=hq.le hV h0;omega) hj
theorem keep_iso {gs:List Gate} {R:List Int} (hR:RightP gs R) {r:Int} (hr:r∈R):Iso gs (keepG gs R) r.toNat (rank (keptL gs R)):=by
 have hV:=hR.2
 have hrr:=hR.1 r hr
 have h0:r.toNat<gs.length:=by omega
 have hin:∀ k∈reachT gs r.toNat,k<gs.length∧Reach gs R k:=fun k hk=>by
  have:=reachT_mem.1 hk
  exact ⟨by omega,rch_reach hV hr h0 this.2⟩
 refine ⟨hV,h0,fun a ha b hb hab=>?_,fun k hk=>?_⟩
 · exact rank_lt hab (by rw [keptL_len];exact (hin a ha).1) ((keptL_get (hin a ha).1).2 (hin a ha).2)
 · rw [(keep_at (hin k hk).1 (hin k hk).2).1]
   exact ⟨rfl,rfl,rfl⟩
theorem keep_ev {gs:List Gate} {R:List Int} (hR:RightP gs R) {r:Int} (hr:r∈R) (S:GE T):evC S (keepG gs R) ((rank (keptL gs R) r.toNat:Nat):Int)=evC S gs r:=by
 have hrr:=hR.1 r hr
 have h1:=(keep_iso hR hr).ev S (keep_valid hR.2) (keep_at (R:=R) (show r.toNat<gs.length by omega) (.root hr)).2
 rw [Int.toNat_of_nonneg hrr.1] at h1
 exact h1
theorem keepL_at {gs:List Gate} {R:List Int} {i:Nat} (hi:i<R.length):(keepL gs R).getD i 0=((rank (keptL gs R) (R.getD i 0).toNat:Nat):Int):=by
 unfold keepL
 rw [getD_ok 0 (by rw [List.length_map];exact hi),List.getElem_map,getD_ok 0 hi]
end Go.Gv
