/- Lemmas of one proof. -/
import Derived.Test.YthfkmcbblnbfaaaGreatDoorM0E
import Derived.Test.YthfkmcbblnbfaaaGreatDoorM17E
import Derived.Test.YthfkmcbblnbfaaaGreatDoorM25E

namespace Go.Proofs.YthfkmcbblnbfaaaGreatDoor
set_option maxRecDepth 100000
set_option maxHeartbeats 16000000
open Go.RowKit
section
theorem zv (v:Value) (l:List (List Int)) (w:World) (hs:Sl w v l) (h8:l.length <= 8) :
  Calls Tryz.prog 82 #[v] w fun e w'=>e= .returned (.int .i64 (dg l)) /\ w=w':=by
 obtain⟨A,c,rfl,hlc,hc,hl⟩:=hs.form
 generalize hL:l.length=L at *
 have HL:=Lib.hid hL;clear hL
 go_enter Tryz.func82,Tryz.ntmps82
 go_wp2
 go_loop [3,4] (fun s t=> ∃k:Nat,k <= L /\ t= .int .i64 k /\ s= .int .i64 (dg (l.take k)) /\ dg (l.take k) <= k*140737488355328) (fun _ t=>L - (intOf t).toNat)
 case atStart=>exact⟨0,by omega,rfl,rfl,by simp[dg]⟩
 case round=>
  obtain⟨k,hk,rfl,rfl,hsum⟩:=hrel
  by_cases hlt:k<L
  ·obtain⟨b,off,u,rfl,hb,hcell,hu⟩:=hs.sl_at hlt
   obtain⟨A',c',rfl,hlc',hc',hl'⟩:=hu.form
   have hst:=Lib.hid (xS (l:=l) (k:=k) (m:=(l.getD k []).length) (by rw[HL.out];exact hlt) rfl)
   generalize hm:(l.getD k []).length=m at *
   have Hm:=Lib.hid hm;clear hm
   generalize hn:dg (l.take k)=n at *
   have Hn:=Lib.hid hn;clear hn
   go_wp2
   go_round
   case rel=>exact⟨k+1,by omega,by go_num,by rw[hst.out],by have:=hst.out;omega⟩
   case measure=>simp[intOf];omega
  ·go_wp2
   go_ret
   have:k=l.length:=by rw[HL.out];omega
   exact⟨eY (by rw[this,aR]),rfl⟩

theorem Tv {l:List (List Int)} {k j:Nat} (b:k<l.length) (a:j<(l.getD k []).length) (h:bP ((l.getD k []).getD j 0)=false):l.any dp=true:=
 cU.2 ⟨l.getD k [],oh b,cU.2 ⟨(l.getD k []).getD j 0,oh a,by rw[h];rfl⟩⟩
theorem On {l:List (List Int)} (h:∀i,i<l.length->dp (l.getD i [])=false):l.any dp=false:=by
 rw[List.any_eq_false];intro c b;obtain⟨i,a,rfl⟩:=cA b;have:=h i a;rw[ap,aq a] at this;simpa using this
theorem Ol {b:List Int} (h:∀i,i<b.length->bP (b.getD i 0)=true):dp b=false:=by
 unfold dp;rw[List.any_eq_false];intro d c;obtain⟨i,a,rfl⟩:=cA c;have:=h i a;rw[ap,aq a] at this;simpa using this
theorem Fg {p:Nat->Prop} {k:Nat} (h:∀i,i<k->p i) (c:p k):∀i,i<k+1->p i:=by
 intro i b;rcases Nat.lt_succ_iff_lt_or_eq.1 b with a | rfl
 ·exact h i a
 exact c
theorem yu (v:Value) (l:List (List Int)) (w:World) (hs:Sl w v l):Calls Tryz.prog 140 #[v] w fun e w'=>e= .returned (.int .i64 (cH l)) /\ w=w':=by
 have hcs:=fun h=>Lib.hid (zv v l w hs h)
 obtain⟨L,hL⟩:∃n,l.length=n:=⟨_,rfl⟩
 obtain⟨A,c,rfl,hlc,hc,hL47⟩:=hs.form_n hL
 rw[hL] at hcs
 have HL:=Lib.hid hL;clear hL
 by_cases h8:L <= 8
 ·have hd:decide ((8:Int)<(L:Int))=false:=by simp;omega
  have hcs:=hcs h8
  obtain⟨n,hn⟩:∃n,dg l=n:=⟨_,rfl⟩
  rw[hn] at hcs
  have Hn:=Lib.hid hn;clear hn
  by_cases hn40:40<n
  ·have hd2:decide ((40:Int)<(n:Int))=true:=by simp;omega
   go_enter Tryz.func140,Tryz.ntmps140
   go_wp2_with (first
    | (go_at_call 82;refine(hcs.out).mono ?_;rintro e w' ⟨rfl,rfl⟩))
   go_ret
   exact⟨eY (by unfold cH;rw[HL.out,Hn.out,if_pos (.inr hn40)]),rfl⟩
  ·have hd2:decide ((40:Int)<(n:Int))=false:=by simp;omega
   have hck:cH l=if l.any dp then 3 else 0:=by unfold cH;rw[HL.out,Hn.out,if_neg (by omega)]
   obtain⟨z,hz⟩:∃z,cH l=z:=⟨_,rfl⟩
   rw[hz] at hck⊢
   clear hz
   have Hck:=Lib.hid hck;clear hck
   go_enter Tryz.func140,Tryz.ntmps140
   go_wp2_with (first
    | (go_at_call 82;refine(hcs.out).mono ?_;rintro e w' ⟨rfl,rfl⟩))
   go_loop [3] (fun t=> ∃k:Nat,k <= L /\ t= .int .i64 k /\ ∀i,i<k -> dp (l.getD i [])=false) (fun t=>L - (intOf t).toNat)
   case atStart=>exact⟨0,by omega,rfl,by omega⟩
   case round=>
    obtain⟨k,hk,rfl,hno⟩:=hrel
    have Hno:=Lib.hid hno;clear hno
    by_cases hlt:k<L
    ·obtain⟨b,off,u,rfl,hb,hcell,hu⟩:=hs.sl_at hlt
     obtain⟨M,hM⟩:∃n,(l.getD k []).length=n:=⟨_,rfl⟩
     obtain⟨A',c',rfl,hlc',hc',hM47⟩:=hu.form_n hM
     have HM:=Lib.hid hM;clear hM
     go_wp2
     go_loop [4] (fun t=> ∃j:Nat,j <= M /\ t= .int .i64 j /\ ∀i,i<j -> bP ((l.getD k []).getD i 0)=true) (fun t=>M - (intOf t).toNat)
     case atStart=>exact⟨0,by omega,rfl,by omega⟩
     case round=>
      obtain⟨j,hj,rfl,hyes⟩:=hrel
      have Hyes:=Lib.hid hyes;clear hyes
      by_cases hlj:j<M
      ·obtain⟨b',off',rfl,hb',hcell',hi'⟩:=hu.int_at hlj
       obtain⟨x,hxx⟩:∃x,(l.getD k []).getD j 0=x:=⟨_,rfl⟩
       rw[hxx] at hcell' hi'
       have Hxx:=Lib.hid hxx;clear hxx
       cases hx:bP x
       ·have Hx:=Lib.hid hx;clear hx
        go_wp2_with (first
         | (go_at_call 81;refine(nj _ _).mono ?_;rintro e w' ⟨rfl,rfl⟩;rw[Hx.out]))
        go_ret
        exact⟨eY (by rw[Hck.out,Tv (j:=j) (by rw[HL.out];exact hlt) (by rw[HM.out];exact hlj) (by rw[Hxx.out];exact Hx.out)];rfl),rfl⟩
       ·have Hx:=Lib.hid hx;clear hx
        go_wp2_with (first
         | (go_at_call 81;refine(nj _ _).mono ?_;rintro e w' ⟨rfl,rfl⟩;rw[Hx.out]))
        go_round
        case rel=>exact⟨j+1,by omega,by go_num,Fg Hyes.out (by rw[Hxx.out];exact Hx.out)⟩
        case measure=>simp[intOf];omega
      ·go_wp2
       go_round
       case rel=>exact⟨k+1,by omega,by go_num,Fg Hno.out (Ol (fun i hi=>Hyes.out i (by rw[HM.out] at hi;omega)))⟩
       case measure=>simp[intOf];omega
    ·go_wp2
     go_ret
     exact⟨eY (by rw[Hck.out,On (fun i hi=>Hno.out i (by rw[HL.out] at hi;omega))];rfl),rfl⟩
 ·have hd:decide ((8:Int)<(L:Int))=true:=by simp;omega
  clear hcs
  go_enter Tryz.func140,Tryz.ntmps140
  go_wp2
  go_ret
  exact⟨eY (by unfold cH;rw[HL.out,if_pos (.inl (by omega))]),rfl⟩
end
section
theorem qs (v:Value) (l:List (List Int)) (w:World) (hs:Sl w v l) (hfit:wT l) :
  Calls Tryz.prog 107 #[v] w fun e w'=> ∃u,e= .returned u /\ Below w.heap.size w w' /\ eQ w' w.heap.size u l:=by
 obtain⟨A,c,rfl,hlc,hc,_⟩:=hs.form
 obtain⟨i0,hi,hz0,hz1,hz2⟩:=info_parts nW
 obtain⟨i1,hi1,hy0,hy1,hy2⟩:=info_parts lD
 have hL1:=hfit.1
 have Hfit:=Lib.hid hfit;clear hfit
 generalize hL:l.length=L at *
 have HL:=Lib.hid hL;clear hL
 go_enter Tryz.func107,Tryz.ntmps107
 go_wp2
 go_loopw [3,4] (fun s t wr=> ∃k:Nat,k <= L /\ t= .int .i64 k /\ eQ wr w.heap.size s (l.take k) /\ Below w.heap.size w wr) (fun _ t _=>L - (intOf t).toNat)
 case atStart=>exact⟨0,by omega,rfl,eQ.nil_ _ _,fj⟩
 case round=>
  obtain⟨k,hk,rfl,hown,hbl⟩:=hrel
  have htl:(l.take k).length=k:=by rw[aB,HL.out];omega
  obtain⟨A1,c1,rfl,_,_,_⟩:=hown.form_n htl
  have Htl:=Lib.hid htl;clear htl
  have hsz:=hbl.size
  by_cases hlt:k<L
  ·obtain⟨b,off,u,rfl,hb,hcell,hu⟩:=(hs.via hbl).sl_at hlt
   have hfk:=Hfit.out.at_ k
   obtain⟨m,hm⟩:∃m,(l.getD k []).length=m:=⟨_,rfl⟩
   obtain⟨A',c',rfl,_,_,_⟩:=hu.form_n hm
   rw[hm] at hfk
   have Hm:=Lib.hid hm;clear hm
   go_wp2_with (at_builtin;refine uE ?_)
   unfold AO
   refine ry _ rfl _ _ 35 rfl wr.heap.size 3 i1 (.int .i64 0) 8 ay hi1 hy0 hy1 hy2 rfl (by decide) _ _ _ rfl (ux wr wr.heap.size 3 1 (aF _)) _ (l.getD k []) rfl (hu.alloc _) (by rw[Hm.out];unfold maxLen;omega) (by rw[Hm.out];omega) (by simp) ?_
   intro v1 w1 zs hzl hzr hown1 hg _
   have hbx:Below wr.heap.size wr w1:=Cz (eV (Below.refl _ _) _) (ux wr wr.heap.size 3 1 (aF _)) hg (by simp)
   simp only[jh,cc] at hown1
   have hux:eQ w1 wr.heap.size v1 (l.getD k []):=eQ.of_zs hown1 hzl (fun i x hx=>EI (hzr i x hx)) (by rw[Hm.out];omega)
   clear hown1 hzr hzl hg
   obtain⟨A2,c2,rfl,_,_,_⟩:=hux.form_n Hm.out
   go_wp2_with (at_builtin;refine uE ?_)
   unfold AO
   refine qN (α:=List Int) _ rfl _ _ 41 rfl i0 (.slice none 0 0) 24 eG hi hz0 hz1 hz2 rfl rfl ⟨w1.heap.size,0,none⟩ 1 rfl _ (l.getD k []) (tV.newer hown (eV hbx _) (by omega) (tD (hux.alloc _))) (zB (by simp)) (by have:=hbx.size;simp;omega) (by rw[Htl.out];omega) (by rw[Htl.out];omega) ?_
   intro v2 w2 hown2 hbel2
   have hB2:=hbel2 w (eV (mZ hbx hbl) _)
   have Hown2:eQ w2 w.heap.size v2 (l.take (k+1)):=by rw[eE l k [] (by rw[HL.out];exact hlt)];exact hown2
   clear hown2 hbel2
   go_wp2
   go_roundw
   case rel=>exact⟨k+1,by omega,by go_num,Hown2,hB2⟩
   case measure=>simp[intOf];omega
  ·go_wp2
   go_ret
   have:k=L:=by omega
   subst this
   rw[←HL.out,aR,HL.out] at hown
   exact⟨_,rfl,hbl,hown⟩

end
