/- Lemmas of one proof. -/
import Derived.Test.YthfkmcbblnbfaaaGreatDoorM0W
import Derived.Test.YthfkmcbblnbfaaaGreatDoorM5W
import Derived.Test.YthfkmcbblnbfaaaGreatDoorM6W

namespace Go.Proofs.YthfkmcbblnbfaaaGreatDoor
set_option maxRecDepth 100000
set_option maxHeartbeats 16000000
open Go.RowKit
section
theorem yp {l:List (List Int)} {k:Nat} {m:Nat} (h:k<l.length) (a:(l.getD k []).length=m):(dq (l.take (k+1)):Int)=dq (l.take k)+m:=by rw[yn l k h,a];simp
theorem xc (v:Value) (l:List (List Int)) (w:World) (hs:Sl w v l) (h8:l.length <= 8) :
  Calls Tryz.prog 125 #[v] w fun e w'=>e= .returned (.int .i64 (dq l)) /\ w=w':=by
 obtain⟨A,c,rfl,hlc,hc,hl⟩:=hs.form
 generalize hL:l.length=L at *
 have HL:=Lib.hid hL;clear hL
 go_enter Tryz.func125,Tryz.ntmps125
 go_wp2
 go_loop [3,8] (fun s t=> ∃k:Nat,k <= L /\ t= .int .i64 k /\ s= .int .i64 (dq (l.take k)) /\ dq (l.take k) <= k*140737488355328) (fun _ t=>L - (intOf t).toNat)
 case atStart=>exact⟨0,by omega,rfl,rfl,by simp[dq]⟩
 case round=>
  obtain⟨k,hk,rfl,rfl,hsum⟩:=hrel
  by_cases hlt:k<L
  ·obtain⟨b,off,u,rfl,hb,hcell,hu⟩:=hs.sl_at hlt
   obtain⟨A',c',rfl,hlc',hc',hl'⟩:=hu.form
   have hst:=Lib.hid (yp (l:=l) (k:=k) (m:=(l.getD k []).length) (by rw[HL.out];exact hlt) rfl)
   generalize hm:(l.getD k []).length=m at *
   have Hm:=Lib.hid hm;clear hm
   generalize hn:dq (l.take k)=n at *
   have Hn:=Lib.hid hn;clear hn
   go_wp2
   go_round
   case rel=>exact⟨k+1,by omega,by go_num,by rw[hst.out],by have:=hst.out;omega⟩
   case measure=>simp[intOf];omega
  ·go_wp2
   go_ret
   have:k=l.length:=by rw[HL.out];omega
   exact⟨eW (by rw[this,aR]),rfl⟩
end
