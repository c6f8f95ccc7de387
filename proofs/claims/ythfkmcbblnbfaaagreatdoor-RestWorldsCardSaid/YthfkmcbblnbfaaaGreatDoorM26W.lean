/- Lemmas of one proof. -/
import Derived.Test.YthfkmcbblnbfaaaGreatDoorM0W
import Derived.Test.YthfkmcbblnbfaaaGreatDoorM17W
import Derived.Test.YthfkmcbblnbfaaaGreatDoorM25W

namespace Go.Proofs.YthfkmcbblnbfaaaGreatDoor
set_option maxRecDepth 100000
set_option maxHeartbeats 16000000
open Go.RowKit
section
theorem zR (v:Value) (l:List (List Int)) (w:World) (hs:Sl w v l) (h8:l.length <= 8) :
  Calls Tryz.prog 82 #[v] w fun e w'=>e= .returned (.int .i64 (dq l)) /\ w=w':=by
 obtain⟨A,c,rfl,hlc,hc,hl⟩:=hs.form
 generalize hL:l.length=L at *
 have HL:=Lib.hid hL;clear hL
 go_enter Tryz.func82,Tryz.ntmps82
 go_wp2
 go_loop [3,4] (fun s t=> ∃k:Nat,k <= L /\ t= .int .i64 k /\ s= .int .i64 (dq (l.take k)) /\ dq (l.take k) <= k*140737488355328) (fun _ t=>L - (intOf t).toNat)
 case atStart=>exact⟨0,by omega,rfl,rfl,by simp[dq]⟩
 case round=>
  obtain⟨k,hk,rfl,rfl,hsum⟩:=hrel
  by_cases hlt:k<L
  ·obtain⟨b,off,u,rfl,hb,hcell,hu⟩:=hs.sl_at hlt
   obtain⟨A',c',rfl,hlc',hc',hl'⟩:=hu.form
   have hst:=Lib.hid (yp (l:=l) (k:=k) (m:=(l.getD k []).length) (by rw[HL.out];exact hlt) rfl)
   generalize hm:(l.getD k []).length=m at *
   have Hm:=Lib.hid hm;clear hm
   generalize hn:dq (l.take k)=n at *
   have Hn:=Lib.hid hn;clear hn
   go_wp2
   go_round
   case rel=>exact⟨k+1,by omega,by go_num,by rw[hst.out],by have:=hst.out;omega⟩
   case measure=>simp[intOf];omega
  ·go_wp2
   go_ret
   have:k=l.length:=by rw[HL.out];omega
   exact⟨eW (by rw[this,aR]),rfl⟩

theorem TX {l:List (List Int)} {k j:Nat} (b:k<l.length) (a:j<(l.getD k []).length) (h:bT ((l.getD k []).getD j 0)=false):l.any dw=true:=
 de.2 ⟨l.getD k [],oD b,de.2 ⟨(l.getD k []).getD j 0,oD a,by rw[h];rfl⟩⟩
theorem OS {l:List (List Int)} (h:∀i,i<l.length->dw (l.getD i [])=false):l.any dw=false:=by
 rw[List.any_eq_false];intro c b;obtain⟨i,a,rfl⟩:=cC b;have:=h i a;rw[ap,aq a] at this;simpa using this
theorem OQ {b:List Int} (h:∀i,i<b.length->bT (b.getD i 0)=true):dw b=false:=by
 unfold dw;rw[List.any_eq_false];intro d c;obtain⟨i,a,rfl⟩:=cC c;have:=h i a;rw[ap,aq a] at this;simpa using this
theorem FV {p:Nat->Prop} {k:Nat} (h:∀i,i<k->p i) (c:p k):∀i,i<k+1->p i:=by
 intro i b;rcases Nat.lt_succ_iff_lt_or_eq.1 b with a | rfl
 ·exact h i a
 exact c
theorem yQ (v:Value) (l:List (List Int)) (w:World) (hs:Sl w v l):Calls Tryz.prog 140 #[v] w fun e w'=>e= .returned (.int .i64 (cR l)) /\ w=w':=by
 have hcs:=fun h=>Lib.hid (zR v l w hs h)
 obtain⟨L,hL⟩:∃n,l.length=n:=⟨_,rfl⟩
 obtain⟨A,c,rfl,hlc,hc,hL47⟩:=hs.form_n hL
 rw[hL] at hcs
 have HL:=Lib.hid hL;clear hL
 by_cases h8:L <= 8
 ·have hd:decide ((8:Int)<(L:Int))=false:=by simp;omega
  have hcs:=hcs h8
  obtain⟨n,hn⟩:∃n,dq l=n:=⟨_,rfl⟩
  rw[hn] at hcs
  have Hn:=Lib.hid hn;clear hn
  by_cases hn40:40<n
  ·have hd2:decide ((40:Int)<(n:Int))=true:=by simp;omega
   go_enter Tryz.func140,Tryz.ntmps140
   go_wp2_with (first
    | (go_at_call 82;refine(hcs.out).mono ?_;rintro e w' ⟨rfl,rfl⟩))
   go_ret
   exact⟨eW (by unfold cR;rw[HL.out,Hn.out,if_pos (.inr hn40)]),rfl⟩
  ·have hd2:decide ((40:Int)<(n:Int))=false:=by simp;omega
   have hck:cR l=if l.any dw then 3 else 0:=by unfold cR;rw[HL.out,Hn.out,if_neg (by omega)]
   obtain⟨z,hz⟩:∃z,cR l=z:=⟨_,rfl⟩
   rw[hz] at hck⊢
   clear hz
   have Hck:=Lib.hid hck;clear hck
   go_enter Tryz.func140,Tryz.ntmps140
   go_wp2_with (first
    | (go_at_call 82;refine(hcs.out).mono ?_;rintro e w' ⟨rfl,rfl⟩))
   go_loop [3] (fun t=> ∃k:Nat,k <= L /\ t= .int .i64 k /\ ∀i,i<k -> dw (l.getD i [])=false) (fun t=>L - (intOf t).toNat)
   case atStart=>exact⟨0,by omega,rfl,by omega⟩
   case round=>
    obtain⟨k,hk,rfl,hno⟩:=hrel
    have Hno:=Lib.hid hno;clear hno
    by_cases hlt:k<L
    ·obtain⟨b,off,u,rfl,hb,hcell,hu⟩:=hs.sl_at hlt
     obtain⟨M,hM⟩:∃n,(l.getD k []).length=n:=⟨_,rfl⟩
     obtain⟨A',c',rfl,hlc',hc',hM47⟩:=hu.form_n hM
     have HM:=Lib.hid hM;clear hM
     go_wp2
     go_loop [4] (fun t=> ∃j:Nat,j <= M /\ t= .int .i64 j /\ ∀i,i<j -> bT ((l.getD k []).getD i 0)=true) (fun t=>M - (intOf t).toNat)
     case atStart=>exact⟨0,by omega,rfl,by omega⟩
     case round=>
      obtain⟨j,hj,rfl,hyes⟩:=hrel
      have Hyes:=Lib.hid hyes;clear hyes
      by_cases hlj:j<M
      ·obtain⟨b',off',rfl,hb',hcell',hi'⟩:=hu.int_at hlj
       obtain⟨x,hxx⟩:∃x,(l.getD k []).getD j 0=x:=⟨_,rfl⟩
       rw[hxx] at hcell' hi'
       have Hxx:=Lib.hid hxx;clear hxx
       cases hx:bT x
       ·have Hx:=Lib.hid hx;clear hx
        go_wp2_with (first
         | (go_at_call 81;refine(nA _ _).mono ?_;rintro e w' ⟨rfl,rfl⟩;rw[Hx.out]))
        go_ret
        exact⟨eW (by rw[Hck.out,TX (j:=j) (by rw[HL.out];exact hlt) (by rw[HM.out];exact hlj) (by rw[Hxx.out];exact Hx.out)];rfl),rfl⟩
       ·have Hx:=Lib.hid hx;clear hx
        go_wp2_with (first
         | (go_at_call 81;refine(nA _ _).mono ?_;rintro e w' ⟨rfl,rfl⟩;rw[Hx.out]))
        go_round
        case rel=>exact⟨j+1,by omega,by go_num,FV Hyes.out (by rw[Hxx.out];exact Hx.out)⟩
        case measure=>simp[intOf];omega
      ·go_wp2
       go_round
       case rel=>exact⟨k+1,by omega,by go_num,FV Hno.out (OQ (fun i hi=>Hyes.out i (by rw[HM.out] at hi;omega)))⟩
       case measure=>simp[intOf];omega
    ·go_wp2
     go_ret
     exact⟨eW (by rw[Hck.out,OS (fun i hi=>Hno.out i (by rw[HL.out] at hi;omega))];rfl),rfl⟩
 ·have hd:decide ((8:Int)<(L:Int))=true:=by simp;omega
  clear hcs
  go_enter Tryz.func140,Tryz.ntmps140
  go_wp2
  go_ret
  exact⟨eW (by unfold cR;rw[HL.out,if_pos (.inl (by omega))]),rfl⟩
end
