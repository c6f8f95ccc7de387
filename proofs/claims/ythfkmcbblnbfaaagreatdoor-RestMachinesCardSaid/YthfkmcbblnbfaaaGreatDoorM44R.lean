/- Lemmas of one proof. -/
import Derived.Test.YthfkmcbblnbfaaaGreatDoorM0R
import Derived.Test.YthfkmcbblnbfaaaGreatDoorM43R

namespace Go.Proofs.YthfkmcbblnbfaaaGreatDoor
set_option maxRecDepth 100000
set_option maxHeartbeats 16000000
open Go.RowKit
section
theorem oK {α:Type} :∀(l:List α),l.length=6->∃a b c d e f,l= [a,b,c,d,e,f]
 | [a,b,c,d,e,f],_=>⟨a,b,c,d,e,f,rfl⟩
 | [],h=>by cases h
 | [_],h=>by cases h
 | [_,_],h=>by cases h
 | [_,_,_],h=>by cases h
 | [_,_,_,_],h=>by cases h
 | [_,_,_,_,_],h=>by cases h
 | _::_::_::_::_::_::_::_,h=>by simp only[bd] at h;omega
theorem zq (z:Int) (L:Nat):bq z 0 ((L:Int) - 1)=decide (0<=z/\z<L):=by
 unfold bq
 rw[<-Bool.decide_and]
 exact decide_eq_decide.2 (by omega)
theorem NV {bs:List (List Int)} (h:cz bs=0) (r:Int) (j:Nat):aH ((blk bs r).getD j 0):=by
 obtain⟨_,_,h3⟩:=kZ h
 by_cases hj:j<(blk bs r).length
 ·have h1:=cI (d:=(0:Int)) hj
  refine oo (gP fun hno=>?_)
  by_cases hk:(r - 1).toNat<bs.length
  ·have h2:blk bs r∈bs:=cI hk
   have:bs.any dq=true:=cG.2 ⟨_,h2,by unfold dq;exact cG.2 ⟨_,h1,by simpa using hno⟩⟩
   rw[h3] at this
   cases this
  have h2:blk bs r= []:=by unfold blk;rw[an,aW (by omega)];rfl
  rw[h2] at hj
  cases hj
 rw[an,aW (by omega)]
 show aH 0
 decide
theorem Gz {l:List (List Int)} {x:List Int} (h:x∈l):x.length<=cZ l:=by
 unfold cZ
 induction l with
 | nil=>cases h
 | cons y l ih=>
  rw[et,List.sum_cons]
  rcases dC.1 h with rfl | h
  ·omega
  have:=ih h
  omega
theorem C7 {bs:List (List Int)} (h:cz bs=0) (r:Int):((blk bs r).length:Int)<=40:=by
 obtain⟨_,h2,_⟩:=kZ h
 by_cases hk:(r - 1).toNat<bs.length
 ·have h3:blk bs r∈bs:=cI hk
  have:=Gz h3
  omega
 have h3:blk bs r= []:=by unfold blk;rw[an,aW (by omega)];rfl
 rw[h3]
 simp
section
variable {P:Program} {n:NF} {B:Nat} {w0:World} {H H':List aJ} {Q:Exit->Act->World->Prop} {env:cy} {x:Code} {ops:Array Oper} {os:List Oper} {Hq:List aJ} {fin:List Nat} {r:il}
theorem wa {α:Type} [Ow α] [js α] {v u:Value} {k:Nat} {xs:List (List α)} (hp:cN H (tB v xs k u) H') (h:RO P n B w0 ops Q Hq fin r env (ak v xs::H')):RO P n B w0 ops Q Hq fin r env H:=xh (fun _ hw=>(hw.perm hp).rin) h
end
section
variable {B:Nat} {w0:World} {Q:Exit->Act->World->Prop} (gp gm gr go gc gf gs gn k:Nat) (li:List (aB×aG)) (A Al As Ap Ab Ai Ao:Option Addr) (c cl cs cp cb ci co:Nat) (a:MA) (m:az) (f p0 p1 fr:Int) (l s:List aC) (o:bC) (fs:List au) (rz:List Value) (fx0 fx1 fx3:Value)
theorem PV (R:mh B w0 fs m a li k Ap cp f p0 p1 l s o fr) (hc:o.c=18) (K:∀(s':List aC) (As':Option Addr) (cs':Nat) (l':List aC) (b':List (List Int)) (Ab':Option Addr) (cb':Nat) (i':List Int) (Ai':Option Addr) (ci':Nat) (o':List Int) (Ao':Option Addr) (co':Nat) (st' nx:Int),aH nx/\aH st'->bN fs m (li.map Prod.snd) ⟨f,p1,l,s⟩ o= .inr ⟨li.map Prod.snd++ [⟨f,nx,l',s'⟩],b',i',o',st',m.T⟩->XW ⟨551,[]⟩ B w0 Q .normal [(4,.pointer (some ⟨gr,0,none⟩)),(5,.pointer (some ⟨go,0,none⟩)),(6,.pointer (some ⟨ab A,ao A+k*4,none⟩)),(9,.pointer (some ⟨gs,0,none⟩)),(13,.int .i64 nx)] (am gs [.slice As' s'.length cs'] 116::ak (.slice As' s'.length cs') s'::am gr rz 43::am go [.slice A (k+1) c,.slice Ab' b'.length cb',.slice Ai' i'.length ci',.slice Ao' o'.length co',.int .i64 st',.int .i64 m.T] 43::ak (.slice A (k+1) c) (li.map Prod.fst++ [(⟨f,p0,.slice Al l'.length cl,.slice As s.length cs⟩:aB)])::ak (.slice Al l'.length cl) l'::cM li::ak (.slice Ab' b'.length cb') b'::ak (.slice Ai' i'.length ci') i'::ak (.slice Ao' o'.length co') o':: [])):CW Tryz.prog ⟨551,[]⟩ B w0 (kU [true,true,true,true,true,true,true,true,true,true,true,false,true,false,true,true,true,true,true,true,true,true,true,true,true,true,true,true,true,true,true,true,true,true,true,true,true,true,true,true,true,true,true,true,true,true,true,true,true,false] (gt Tryz.f51)) Q [(4,.pointer (some ⟨gr,0,none⟩)),(5,.pointer (some ⟨go,0,none⟩)),(6,.pointer (some ⟨ab A,ao A+k*4,none⟩)),(9,.pointer (some ⟨gs,0,none⟩)),(13,.int .i64 p1)] [am gs [.slice As s.length cs] 116,ak (.slice As s.length cs) s,am gp [.slice Ap fs.length cp] 24,am gm [.slice a.Af m.F.length a.cf,.slice a.Ab m.B.length a.cb,.slice a.Ai m.I.length a.ci,.slice a.Ao m.out.length a.co,.int .i64 m.S,.int .i64 m.T] 43,am gr rz 43,am go [.slice A (k+1) c,.slice Ab m.B.length cb,.slice Ai m.I.length ci,.slice Ao m.out.length co,.int .i64 m.S,.int .i64 m.T] 43,am gc [.int .i64 o.c,.int .i64 o.a] 86,am gf [fx0,fx1,.int .i64 fr,fx3] 84,am gn [.int .i64 (s.length:Int)] 3,ak (.slice A (k+1) c) (li.map Prod.fst++ [(⟨f,p0,.slice Al l.length cl,.slice As s.length cs⟩:aB)]),ak (.slice Al l.length cl) l,cM li,ak (.slice Ab m.B.length cb) m.B,ak (.slice Ai m.I.length ci) m.I,ak (.slice Ao m.out.length co) m.out]:=by
 have hsl:=R.sl
 refine bO<|aj ?_
 intro g1 _
 refine oE (cH (α:=aC) (bytes:=16) (⟨true,0⟩) [] rfl ax (aV du) rfl (eD fc fc) (dm (show aH 0 by decide)) (by omega) (by omega) rfl rfl rfl) (fun⟨A3,c3⟩ _=>?_)
 refine aO ?_
 refine iM<|eQ (K (s++ [⟨true,0⟩]) A3 c3 l m.B Ab cb m.I Ai ci m.out Ao co m.S p1 ⟨R.pi.2.2,R.hms⟩ (by dsimp only[bN];rw[if_neg (by omega)];rw[if_neg (by omega)];rw[if_neg (by omega)];rw[if_neg (by omega)];rw[if_neg (by omega)];rw[if_neg (by omega)];rw[if_neg (by omega)];rw[if_neg (by omega)];rw[if_neg (by omega)];rw[if_neg (by omega)];rw[if_neg (by omega)];rw[if_neg (by omega)];rw[if_neg (by omega)];rw[if_neg (by omega)];dsimp only[gA];rw[if_neg (by omega)];rw[if_neg (by omega)];rw[if_neg (by omega)];rw[if_neg (by omega)];rw[if_pos hc])) ⟨rfl,rfl,rfl,rfl,rfl,trivial⟩ me
theorem PT (R:mh B w0 fs m a li k Ap cp f p0 p1 l s o fr) (hc:o.c=20) (hrz:rz.length=6) (K:∀(s':List aC) (As':Option Addr) (cs':Nat) (l':List aC) (b':List (List Int)) (Ab':Option Addr) (cb':Nat) (i':List Int) (Ai':Option Addr) (ci':Nat) (o':List Int) (Ao':Option Addr) (co':Nat) (st' nx:Int),aH nx/\aH st'->bN fs m (li.map Prod.snd) ⟨f,p1,l,s⟩ o= .inr ⟨li.map Prod.snd++ [⟨f,nx,l',s'⟩],b',i',o',st',m.T⟩->XW ⟨551,[]⟩ B w0 Q .normal [(4,.pointer (some ⟨gr,0,none⟩)),(5,.pointer (some ⟨go,0,none⟩)),(6,.pointer (some ⟨ab A,ao A+k*4,none⟩)),(9,.pointer (some ⟨gs,0,none⟩)),(13,.int .i64 nx)] (am gs [.slice As' s'.length cs'] 116::ak (.slice As' s'.length cs') s'::am gr rz 43::am go [.slice A (k+1) c,.slice Ab' b'.length cb',.slice Ai' i'.length ci',.slice Ao' o'.length co',.int .i64 st',.int .i64 m.T] 43::ak (.slice A (k+1) c) (li.map Prod.fst++ [(⟨f,p0,.slice Al l'.length cl,.slice As s.length cs⟩:aB)])::ak (.slice Al l'.length cl) l'::cM li::ak (.slice Ab' b'.length cb') b'::ak (.slice Ai' i'.length ci') i'::ak (.slice Ao' o'.length co') o':: [])) (KT:∀(y:az) (g:MA),(∃why,bN fs m (li.map Prod.snd) ⟨f,p1,l,s⟩ o= .inl why/\y= {m with S:=3,T:=why})->XW ⟨551,[]⟩ B w0 Q .ret [(4,.pointer (some ⟨gr,0,none⟩))] (am gr [.slice g.Af y.F.length g.cf,.slice g.Ab y.B.length g.cb,.slice g.Ai y.I.length g.ci,.slice g.Ao y.out.length g.co,.int .i64 y.S,.int .i64 y.T] 43::ak (.slice g.Af y.F.length g.cf) y.F::ak (.slice g.Ab y.B.length g.cb) y.B::ak (.slice g.Ai y.I.length g.ci) y.I::ak (.slice g.Ao y.out.length g.co) y.out:: [])):CW Tryz.prog ⟨551,[]⟩ B w0 (kU [true,true,true,true,true,true,true,true,true,true,true,false,true,false,true,true,true,true,true,true,true,true,true,true,true,true,true,true,true,true,true,true,true,true,true,true,true,true,true,true,true,true,true,true,true,true,true,true,true,true,true,true,true,false] (gt Tryz.f51)) Q [(3,.pointer (some ⟨gm,0,none⟩)),(4,.pointer (some ⟨gr,0,none⟩)),(5,.pointer (some ⟨go,0,none⟩)),(6,.pointer (some ⟨ab A,ao A+k*4,none⟩)),(9,.pointer (some ⟨gs,0,none⟩)),(10,.pointer (some ⟨gn,0,none⟩)),(13,.int .i64 p1)] [am gs [.slice As s.length cs] 116,ak (.slice As s.length cs) s,am gp [.slice Ap fs.length cp] 24,am gm [.slice a.Af m.F.length a.cf,.slice a.Ab m.B.length a.cb,.slice a.Ai m.I.length a.ci,.slice a.Ao m.out.length a.co,.int .i64 m.S,.int .i64 m.T] 43,am gr rz 43,am go [.slice A (k+1) c,.slice Ab m.B.length cb,.slice Ai m.I.length ci,.slice Ao m.out.length co,.int .i64 m.S,.int .i64 m.T] 43,am gc [.int .i64 o.c,.int .i64 o.a] 86,am gf [fx0,fx1,.int .i64 fr,fx3] 84,am gn [.int .i64 (s.length:Int)] 3,ak (.slice A (k+1) c) (li.map Prod.fst++ [(⟨f,p0,.slice Al l.length cl,.slice As s.length cs⟩:aB)]),ak (.slice Al l.length cl) l,cM li,ak (.slice Ab m.B.length cb) m.B,ak (.slice Ai m.I.length ci) m.I,ak (.slice Ao m.out.length co) m.out]:=by
 have hsl:=R.sl
 have h1:1<=s.length:=R.nd.one (by omega)
 obtain⟨z0,z1,z2,z3,z4,z5,rfl⟩:∃z0 z1 z2 z3 z4 z5,rz= [z0,z1,z2,z3,z4,z5]:=oK rz hrz
 have hol:=R.ol
 have hv:s.getD (s.length - 1) default=aF s:=eG.symm
 have hvi:aH (aF s).n:=by rw[eG];exact R.si _ (cI (by omega))
 have hd:=iG s
 refine dY (fun w h=>gG h (xs:=s) (.s .a)) fun hcap=>?_
 refine cc<|av (fun q0=>?_) (fun q0=>?_)
 ·have q0:m.out.length=10:=by have q0:(m.out.length:Int)=10:=q0;omega
  refine aj ?_
  refine eb rfl pD (fun w hw=>iC a m 5 (by decide) w (R.hm.ro hw) R.fit) (fun g _=>?_)
  refine dr (cV _ fc cX rfl rfl rfl rfl rfl (by rfl) rfl (by rfl)) rfl rfl (fun _ _=>?_)
  refine bH<|ik (eL ?_)
  refine eQ (KT {m with S:=3,T:=5} g ⟨5,by dsimp only[bN];rw[if_neg (by omega)];rw[if_neg (by omega)];rw[if_neg (by omega)];rw[if_neg (by omega)];rw[if_neg (by omega)];rw[if_neg (by omega)];rw[if_neg (by omega)];rw[if_neg (by omega)];rw[if_neg (by omega)];rw[if_neg (by omega)];rw[if_neg (by omega)];rw[if_neg (by omega)];rw[if_neg (by omega)];rw[if_pos hc,if_pos q0],rfl⟩) ⟨rfl,trivial⟩ me
 have q0:¬m.out.length=10:=by have q0:¬(m.out.length:Int)=10:=q0;omega
 refine aj ?_
 refine bz [0,3,6,9,12,15,18,21,26,29,31,35] [9,10,11] rfl<|aj ?_
 refine cC (t:=509) (v':= .int .i64 ((s.length - 1:Nat):Int)) rfl (by congr 1;omega) ?_
 refine tE rfl (bg (k:=(s.length - 1)) ax aI (SF.own (xs:=s) rfl fc) (by omega) rfl rfl rfl)<|aj ?_
 refine tE rfl (bQ (fun w hw=>(SF.val (SF.own rfl fc) (show s.length - 1<s.length by omega) default) w hw 1 _ rfl) rfl rfl be)<|aj ?_
 intro g1 _
 rw[hv]
 refine pE rfl (cH (α:=Int) (bytes:=8) (aF s).n [] rfl aw (aV cO) rfl (eD (R:=ak (.slice Ao m.out.length co) m.out) fc fc) (uV hvi) (by omega) (by omega) rfl rfl rfl) (fun⟨A4,c4⟩ _=>?_)
 refine aO ?_
 refine bh (t:=518) (v':= .int .i64 ((dl s).length:Int)) rfl (by congr 1;omega) ?_
 refine sE (ij (k:=(dl s).length) ax aI (by omega) rfl rfl rfl) ?_
 refine dr (cV _ fc ft rfl rfl rfl rfl rfl (by rfl) rfl (by rfl)) rfl rfl (fun _ _=>?_)
 refine rk (dl s) fc (oO s) ?_
 refine iM<|eQ (K (dl s) As cs l m.B Ab cb m.I Ai ci (m.out++ [(aF s).n]) A4 c4 m.S p1 ⟨R.pi.2.2,R.hms⟩ (by dsimp only[bN];rw[if_neg (by omega)];rw[if_neg (by omega)];rw[if_neg (by omega)];rw[if_neg (by omega)];rw[if_neg (by omega)];rw[if_neg (by omega)];rw[if_neg (by omega)];rw[if_neg (by omega)];rw[if_neg (by omega)];rw[if_neg (by omega)];rw[if_neg (by omega)];rw[if_neg (by omega)];rw[if_neg (by omega)];rw[if_pos hc,if_neg q0])) ⟨rfl,rfl,rfl,rfl,rfl,trivial⟩ me
theorem PW (R:mh B w0 fs m a li k Ap cp f p0 p1 l s o fr) (hc:o.c=17) (hrz:rz.length=6) (K:∀(s':List aC) (As':Option Addr) (cs':Nat) (l':List aC) (b':List (List Int)) (Ab':Option Addr) (cb':Nat) (i':List Int) (Ai':Option Addr) (ci':Nat) (o':List Int) (Ao':Option Addr) (co':Nat) (st' nx:Int),aH nx/\aH st'->bN fs m (li.map Prod.snd) ⟨f,p1,l,s⟩ o= .inr ⟨li.map Prod.snd++ [⟨f,nx,l',s'⟩],b',i',o',st',m.T⟩->XW ⟨551,[]⟩ B w0 Q .normal [(4,.pointer (some ⟨gr,0,none⟩)),(5,.pointer (some ⟨go,0,none⟩)),(6,.pointer (some ⟨ab A,ao A+k*4,none⟩)),(9,.pointer (some ⟨gs,0,none⟩)),(13,.int .i64 nx)] (am gs [.slice As' s'.length cs'] 116::ak (.slice As' s'.length cs') s'::am gr rz 43::am go [.slice A (k+1) c,.slice Ab' b'.length cb',.slice Ai' i'.length ci',.slice Ao' o'.length co',.int .i64 st',.int .i64 m.T] 43::ak (.slice A (k+1) c) (li.map Prod.fst++ [(⟨f,p0,.slice Al l'.length cl,.slice As s.length cs⟩:aB)])::ak (.slice Al l'.length cl) l'::cM li::ak (.slice Ab' b'.length cb') b'::ak (.slice Ai' i'.length ci') i'::ak (.slice Ao' o'.length co') o':: [])) (KT:∀(y:az) (g:MA),(∃why,bN fs m (li.map Prod.snd) ⟨f,p1,l,s⟩ o= .inl why/\y= {m with S:=3,T:=why})->XW ⟨551,[]⟩ B w0 Q .ret [(4,.pointer (some ⟨gr,0,none⟩))] (am gr [.slice g.Af y.F.length g.cf,.slice g.Ab y.B.length g.cb,.slice g.Ai y.I.length g.ci,.slice g.Ao y.out.length g.co,.int .i64 y.S,.int .i64 y.T] 43::ak (.slice g.Af y.F.length g.cf) y.F::ak (.slice g.Ab y.B.length g.cb) y.B::ak (.slice g.Ai y.I.length g.ci) y.I::ak (.slice g.Ao y.out.length g.co) y.out:: [])):CW Tryz.prog ⟨551,[]⟩ B w0 (kU [true,true,true,true,true,true,true,true,true,true,true,false,true,false,true,true,true,true,true,true,true,true,true,true,true,true,true,true,true,true,true,true,true,true,true,true,true,true,true,true,true,true,true,true,true,true,true,false] (gt Tryz.f51)) Q [(3,.pointer (some ⟨gm,0,none⟩)),(4,.pointer (some ⟨gr,0,none⟩)),(5,.pointer (some ⟨go,0,none⟩)),(6,.pointer (some ⟨ab A,ao A+k*4,none⟩)),(9,.pointer (some ⟨gs,0,none⟩)),(10,.pointer (some ⟨gn,0,none⟩)),(11,.func (.func 109) #[] #[]),(12,.func (.func 111) #[] #[.pointer (some ⟨gs,0,none⟩),.pointer (some ⟨gn,0,none⟩),.pointer (some ⟨go,0,none⟩)]),(13,.int .i64 p1)] [am gs [.slice As s.length cs] 116,ak (.slice As s.length cs) s,am gp [.slice Ap fs.length cp] 24,am gm [.slice a.Af m.F.length a.cf,.slice a.Ab m.B.length a.cb,.slice a.Ai m.I.length a.ci,.slice a.Ao m.out.length a.co,.int .i64 m.S,.int .i64 m.T] 43,am gr rz 43,am go [.slice A (k+1) c,.slice Ab m.B.length cb,.slice Ai m.I.length ci,.slice Ao m.out.length co,.int .i64 m.S,.int .i64 m.T] 43,am gc [.int .i64 o.c,.int .i64 o.a] 86,am gf [fx0,fx1,.int .i64 fr,fx3] 84,am gn [.int .i64 (s.length:Int)] 3,ak (.slice A (k+1) c) (li.map Prod.fst++ [(⟨f,p0,.slice Al l.length cl,.slice As s.length cs⟩:aB)]),ak (.slice Al l.length cl) l,cM li,ak (.slice Ab m.B.length cb) m.B,ak (.slice Ai m.I.length ci) m.I,ak (.slice Ao m.out.length co) m.out]:=by
 have hsl:=R.sl
 have h1:1<=s.length:=R.nd.one (by omega)
 have hlen:=R.nd.len hc
 obtain⟨z0,z1,z2,z3,z4,z5,rfl⟩:∃z0 z1 z2 z3 z4 z5,rz= [z0,z1,z2,z3,z4,z5]:=oK rz hrz
 have hv:s.getD (s.length - 1) default=aF s:=eG.symm
 have hvi:aH (aF s).n:=by rw[eG];exact R.si _ (cI (by omega))
 have e1:∀v:aC,(dl s++ [v]).length=s.length:=fun v=>by rw[<-pG h1 v,ea]
 have hbl:=fZ R.bl
 have hbn:((blk m.B (aF s).n).length:Int)<=40:=C7 R.bl _
 refine cc<|aj ?_
 refine oE (fN rfl rfl rfl N5 (fun w hw=>pm gs gn go s.length m.B.length As Ab cs cb (.slice A (k+1) c) (.slice Ai m.I.length ci) (.slice Ao m.out.length co) (.int .i64 m.S) (.int .i64 m.T) s m.B 1 (aF s) rfl rfl ⟨by decide,by omega⟩ hv hlen w (hw.msub (.s fc (.s fc (.s fc (.s fc (.s fc .r)))))))) (fun g _=>aj ?_)
 refine cK (t:=460) (v':= .bool (decide ((aF s).n=0))) rfl (by rw[Bool.not_not]) ?_
 refine eo rfl (fun h0=>?_) (fun h0=>?_)
 ·have h0:(aF s).n=0:=h0
  simp only[if_pos h0]
  refine aj ?_
  refine eb rfl pD (fun w hw=>iC a m 1 (by decide) w (R.hm.ro hw) R.fit) (fun g _=>?_)
  refine dr (cV _ fc cX rfl rfl rfl rfl rfl (by rfl) rfl (by rfl)) rfl rfl (fun _ _=>?_)
  refine bH<|ik (eL ?_)
  refine eQ (KT {m with S:=3,T:=1} g ⟨1,by dsimp only[bN];rw[if_neg (by omega)];rw[if_neg (by omega)];rw[if_neg (by omega)];rw[if_neg (by omega)];rw[if_neg (by omega)];rw[if_neg (by omega)];rw[if_neg (by omega)];rw[if_neg (by omega)];rw[if_neg (by omega)];rw[if_neg (by omega)];rw[if_neg (by omega)];rw[if_neg (by omega)];rw[if_neg (by omega)];rw[if_neg (by omega)];dsimp only[gA];rw[if_neg (by omega)];rw[if_neg (by omega)];rw[if_neg (by omega)];rw[if_pos hc,if_pos h0],rfl⟩) ⟨rfl,trivial⟩ me
 have h0:¬(aF s).n=0:=h0
 simp only[if_neg h0]
 refine aj ?_
 refine bz [0,3,6,9,12,15,20,21,26] [8] rfl<|aj ?_
 refine pE rfl (ko rfl rfl rfl nL (fun w hw=>kD ((blk m.B (aF s).n).length:Int) ⟨by omega,by omega⟩ w)) (fun _ _=>?_)
 refine cC (t:=465) (v':= .int .i64 ((s.length - 1:Nat):Int)) rfl (by congr 1;omega) ?_
 refine tE rfl (bg (k:=(s.length - 1)) ax aI (SF.own (xs:=s) rfl fc) (by omega) rfl rfl rfl) ?_
 refine pE rfl (fS (α:=aC) (A:=As) (c:=cs) (cA (blk m.B (aF s).n).length) default (xs':=dl s++ [cA (blk m.B (aF s).n).length]) (pG h1 _).symm fc (by omega) (kK _) aI rfl rfl rfl rfl rfl rfl rfl rfl) (fun _ _=>?_)
 refine wa fc ?_
 refine bu<|eQ (K (dl s++ [cA (blk m.B (aF s).n).length]) As cs l m.B Ab cb m.I Ai ci m.out Ao co m.S p1 ⟨R.pi.2.2,R.hms⟩ (by dsimp only[bN];rw[if_neg (by omega)];rw[if_neg (by omega)];rw[if_neg (by omega)];rw[if_neg (by omega)];rw[if_neg (by omega)];rw[if_neg (by omega)];rw[if_neg (by omega)];rw[if_neg (by omega)];rw[if_neg (by omega)];rw[if_neg (by omega)];rw[if_neg (by omega)];rw[if_neg (by omega)];rw[if_neg (by omega)];rw[if_neg (by omega)];dsimp only[gA];rw[if_neg (by omega)];rw[if_neg (by omega)];rw[if_neg (by omega)];rw[if_pos hc,if_neg h0])) ⟨rfl,rfl,rfl,rfl,rfl,trivial⟩ (fun w h=>by rw[e1];exact h.msub ms)
theorem PY (R:mh B w0 fs m a li k Ap cp f p0 p1 l s o fr) (hc:o.c=15) (hrz:rz.length=6) (K:∀(s':List aC) (As':Option Addr) (cs':Nat) (l':List aC) (b':List (List Int)) (Ab':Option Addr) (cb':Nat) (i':List Int) (Ai':Option Addr) (ci':Nat) (o':List Int) (Ao':Option Addr) (co':Nat) (st' nx:Int),aH nx/\aH st'->bN fs m (li.map Prod.snd) ⟨f,p1,l,s⟩ o= .inr ⟨li.map Prod.snd++ [⟨f,nx,l',s'⟩],b',i',o',st',m.T⟩->XW ⟨551,[]⟩ B w0 Q .normal [(4,.pointer (some ⟨gr,0,none⟩)),(5,.pointer (some ⟨go,0,none⟩)),(6,.pointer (some ⟨ab A,ao A+k*4,none⟩)),(9,.pointer (some ⟨gs,0,none⟩)),(13,.int .i64 nx)] (am gs [.slice As' s'.length cs'] 116::ak (.slice As' s'.length cs') s'::am gr rz 43::am go [.slice A (k+1) c,.slice Ab' b'.length cb',.slice Ai' i'.length ci',.slice Ao' o'.length co',.int .i64 st',.int .i64 m.T] 43::ak (.slice A (k+1) c) (li.map Prod.fst++ [(⟨f,p0,.slice Al l'.length cl,.slice As s.length cs⟩:aB)])::ak (.slice Al l'.length cl) l'::cM li::ak (.slice Ab' b'.length cb') b'::ak (.slice Ai' i'.length ci') i'::ak (.slice Ao' o'.length co') o':: [])) (KT:∀(y:az) (g:MA),(∃why,bN fs m (li.map Prod.snd) ⟨f,p1,l,s⟩ o= .inl why/\y= {m with S:=3,T:=why})->XW ⟨551,[]⟩ B w0 Q .ret [(4,.pointer (some ⟨gr,0,none⟩))] (am gr [.slice g.Af y.F.length g.cf,.slice g.Ab y.B.length g.cb,.slice g.Ai y.I.length g.ci,.slice g.Ao y.out.length g.co,.int .i64 y.S,.int .i64 y.T] 43::ak (.slice g.Af y.F.length g.cf) y.F::ak (.slice g.Ab y.B.length g.cb) y.B::ak (.slice g.Ai y.I.length g.ci) y.I::ak (.slice g.Ao y.out.length g.co) y.out:: [])):CW Tryz.prog ⟨551,[]⟩ B w0 (kU [true,true,true,true,true,true,true,true,true,true,true,false,true,false,true,true,true,true,true,true,true,true,true,true,true,true,true,true,true,true,true,true,true,true,true,true,true,true,true,true,true,true,true,false] (gt Tryz.f51)) Q [(3,.pointer (some ⟨gm,0,none⟩)),(4,.pointer (some ⟨gr,0,none⟩)),(5,.pointer (some ⟨go,0,none⟩)),(6,.pointer (some ⟨ab A,ao A+k*4,none⟩)),(9,.pointer (some ⟨gs,0,none⟩)),(10,.pointer (some ⟨gn,0,none⟩)),(11,.func (.func 109) #[] #[]),(12,.func (.func 111) #[] #[.pointer (some ⟨gs,0,none⟩),.pointer (some ⟨gn,0,none⟩),.pointer (some ⟨go,0,none⟩)]),(13,.int .i64 p1)] [am gs [.slice As s.length cs] 116,ak (.slice As s.length cs) s,am gp [.slice Ap fs.length cp] 24,am gm [.slice a.Af m.F.length a.cf,.slice a.Ab m.B.length a.cb,.slice a.Ai m.I.length a.ci,.slice a.Ao m.out.length a.co,.int .i64 m.S,.int .i64 m.T] 43,am gr rz 43,am go [.slice A (k+1) c,.slice Ab m.B.length cb,.slice Ai m.I.length ci,.slice Ao m.out.length co,.int .i64 m.S,.int .i64 m.T] 43,am gc [.int .i64 o.c,.int .i64 o.a] 86,am gf [fx0,fx1,.int .i64 fr,fx3] 84,am gn [.int .i64 (s.length:Int)] 3,ak (.slice A (k+1) c) (li.map Prod.fst++ [(⟨f,p0,.slice Al l.length cl,.slice As s.length cs⟩:aB)]),ak (.slice Al l.length cl) l,cM li,ak (.slice Ab m.B.length cb) m.B,ak (.slice Ai m.I.length ci) m.I,ak (.slice Ao m.out.length co) m.out]:=by
 have hsl:=R.sl
 have h1:2<=s.length:=R.nd.two (by omega)
 have hlen:=R.nd.get hc
 obtain⟨z0,z1,z2,z3,z4,z5,rfl⟩:∃z0 z1 z2 z3 z4 z5,rz= [z0,z1,z2,z3,z4,z5]:=oK rz hrz
 have hv:s.getD (s.length - 1) default=aF s:=eG.symm
 have hvi:aH (aF s).n:=by rw[eG];exact R.si _ (cI (by omega))
 have hv2:s.getD (s.length - 2) default=aF (dl s):=(jI (by omega)).symm
 have hvi2:aH (aF (dl s)).n:=by rw[jI (by omega)];exact R.si _ (cI (by omega))
 have hd:=uZ s
 refine dY (fun w h=>gG h (xs:=s) (.s .a)) fun hcap=>?_
 have hbl:=fZ R.bl
 have hbn:((blk m.B (aF (dl s)).n).length:Int)<=40:=C7 R.bl _
 refine cc<|aj ?_
 refine oE (fN rfl rfl rfl N5 (fun w hw=>pm gs gn go s.length m.B.length As Ab cs cb (.slice A (k+1) c) (.slice Ai m.I.length ci) (.slice Ao m.out.length co) (.int .i64 m.S) (.int .i64 m.T) s m.B 2 (aF (dl s)) rfl rfl ⟨by decide,by omega⟩ hv2 hlen w (hw.msub (.s fc (.s fc (.s fc (.s fc (.s fc .r)))))))) (fun g _=>aj ?_)
 refine cK (t:=377) (v':= .bool (decide ((aF (dl s)).n=0))) rfl (by rw[Bool.not_not]) ?_
 refine eo rfl (fun h0=>?_) (fun h0=>?_)
 ·have h0:(aF (dl s)).n=0:=h0
  simp only[if_pos h0]
  refine aj ?_
  refine eb rfl pD (fun w hw=>iC a m 1 (by decide) w (R.hm.ro hw) R.fit) (fun g _=>?_)
  refine dr (cV _ fc cX rfl rfl rfl rfl rfl (by rfl) rfl (by rfl)) rfl rfl (fun _ _=>?_)
  refine bH<|ik (eL ?_)
  refine eQ (KT {m with S:=3,T:=1} g ⟨1,by dsimp only[bN];rw[if_neg (by omega)];rw[if_neg (by omega)];rw[if_neg (by omega)];rw[if_neg (by omega)];rw[if_neg (by omega)];rw[if_neg (by omega)];rw[if_neg (by omega)];rw[if_neg (by omega)];rw[if_neg (by omega)];rw[if_neg (by omega)];rw[if_neg (by omega)];rw[if_neg (by omega)];rw[if_neg (by omega)];rw[if_neg (by omega)];dsimp only[gA];rw[if_neg (by omega)];rw[if_pos hc,if_pos h0],rfl⟩) ⟨rfl,trivial⟩ me
 have h0:¬(aF (dl s)).n=0:=h0
 simp only[if_neg h0]
 refine aj ?_
 refine bh (t:=382) (v':= .int .i64 ((s.length - 1:Nat):Int)) rfl (by congr 1;omega) ?_
 refine cS ((s.length - 1)) rfl ((SF.own (xs:=s) rfl fc))<|aj ?_
 refine eH rfl (fun w hw=>(SF.val (SF.own rfl fc) (show s.length - 1<s.length by omega) default) w hw 1 _ rfl)<|aj ?_
 rw[hv]
 refine bX rfl jA (fun w hw=>(fk (aF s).n 0 (((blk m.B (aF (dl s)).n).length:Int) - 1) w).mono fun e w' h=>by obtain⟨h1,rfl⟩:=h;exact⟨h1,Below.refl _ _⟩)<|aj ?_
 refine cK (t:=390) (v':= .bool (!decide (0<=(aF s).n/\(aF s).n<(blk m.B (aF (dl s)).n).length))) rfl (by rw[zq]) ?_
 refine jq rfl (fun q1=>?_) (fun q1=>?_)
 ·have q1:¬(0<=(aF s).n/\(aF s).n<(blk m.B (aF (dl s)).n).length):=q1
  refine aj ?_
  refine eb rfl pD (fun w hw=>iC a m 2 (by decide) w (R.hm.ro hw) R.fit) (fun g _=>?_)
  refine dr (cV _ fc cX rfl rfl rfl rfl rfl (by rfl) rfl (by rfl)) rfl rfl (fun _ _=>?_)
  refine bH<|ik (eL ?_)
  refine eQ (KT {m with S:=3,T:=2} g ⟨2,by dsimp only[bN];rw[if_neg (by omega)];rw[if_neg (by omega)];rw[if_neg (by omega)];rw[if_neg (by omega)];rw[if_neg (by omega)];rw[if_neg (by omega)];rw[if_neg (by omega)];rw[if_neg (by omega)];rw[if_neg (by omega)];rw[if_neg (by omega)];rw[if_neg (by omega)];rw[if_neg (by omega)];rw[if_neg (by omega)];rw[if_neg (by omega)];dsimp only[gA];rw[if_neg (by omega)];rw[if_pos hc,if_neg h0,if_pos q1],rfl⟩) ⟨rfl,trivial⟩ me
 have q1:0<=(aF s).n/\(aF s).n<(blk m.B (aF (dl s)).n).length:=q1
 have q2:(aF s).n<((m.B.getD ((aF (dl s)).n - 1).toNat []).length:Int):=q1.2
 refine aj ?_
 refine bz [0,3,6,9,12,15,18,21,24,27,30,33,36,39,44,47,50,53] [16,17] rfl<|aj ?_
 refine cC (t:=395) (v':= .int .i64 ((dl (dl s)).length:Int)) rfl (by congr 1;omega) ?_
 refine tE rfl (ij (k:=(dl (dl s)).length) ax aI (by omega) rfl rfl rfl)<|aj ?_
 refine cC (t:=401) (v':= .int .i64 ((s.length - 1:Nat):Int)) rfl (by congr 1;omega) ?_
 refine tE rfl (bg (k:=(s.length - 1)) ax aI (SF.own (xs:=s) rfl fc) (by omega) rfl rfl rfl)<|aj ?_
 refine tE rfl (bQ (fun w hw=>(SF.val (SF.own rfl fc) (show s.length - 1<s.length by omega) default) w hw 1 _ rfl) rfl rfl be) ?_
 rw[hv]
 refine cC (t:=404) (v':= .int .i64 (((aF s).n.toNat:Nat):Int)) rfl (by congr 1;omega) ?_
 refine tE rfl (bg (k:=(aF s).n.toNat) aw bj (SF.rin (k:=((aF (dl s)).n - 1).toNat) rfl fc) (by omega) rfl rfl rfl) ?_
 refine tE rfl (bQ (SF.int (SF.rin (k:=((aF (dl s)).n - 1).toNat) rfl fc) (by omega)) rfl rfl be) ?_
 refine pE rfl (ko rfl rfl rfl nL (fun w hw=>kD ((blk m.B (aF (dl s)).n).getD (aF s).n.toNat 0) (NV R.bl _ _) w)) (fun _ _=>aj ?_)
 intro g1 _
 refine xg (dl (dl s)) fc (rG s) ?_
 refine pE rfl (cH (α:=aC) (bytes:=16) (cA ((blk m.B (aF (dl s)).n).getD (aF s).n.toNat 0)) [] rfl ax (aV du) rfl (eD fc fc) (dm (kK _)) (by omega) (by omega) rfl rfl rfl) (fun⟨A3,c3⟩ _=>?_)
 refine aO ?_
 refine wa fc ?_
 refine bu<|eQ (K (dl (dl s)++ [cA ((blk m.B (aF (dl s)).n).getD (aF s).n.toNat 0)]) A3 c3 l m.B Ab cb m.I Ai ci m.out Ao co m.S p1 ⟨R.pi.2.2,R.hms⟩ (by dsimp only[bN];rw[if_neg (by omega)];rw[if_neg (by omega)];rw[if_neg (by omega)];rw[if_neg (by omega)];rw[if_neg (by omega)];rw[if_neg (by omega)];rw[if_neg (by omega)];rw[if_neg (by omega)];rw[if_neg (by omega)];rw[if_neg (by omega)];rw[if_neg (by omega)];rw[if_neg (by omega)];rw[if_neg (by omega)];rw[if_neg (by omega)];dsimp only[gA];rw[if_neg (by omega)];rw[if_pos hc,if_neg h0,if_neg (fun h=>h q1)])) ⟨rfl,rfl,rfl,rfl,rfl,trivial⟩ me
theorem PX (R:mh B w0 fs m a li k Ap cp f p0 p1 l s o fr) (hc:o.c=16) (hrz:rz.length=6) (K:∀(s':List aC) (As':Option Addr) (cs':Nat) (l':List aC) (b':List (List Int)) (Ab':Option Addr) (cb':Nat) (i':List Int) (Ai':Option Addr) (ci':Nat) (o':List Int) (Ao':Option Addr) (co':Nat) (st' nx:Int),aH nx/\aH st'->bN fs m (li.map Prod.snd) ⟨f,p1,l,s⟩ o= .inr ⟨li.map Prod.snd++ [⟨f,nx,l',s'⟩],b',i',o',st',m.T⟩->XW ⟨551,[]⟩ B w0 Q .normal [(4,.pointer (some ⟨gr,0,none⟩)),(5,.pointer (some ⟨go,0,none⟩)),(6,.pointer (some ⟨ab A,ao A+k*4,none⟩)),(9,.pointer (some ⟨gs,0,none⟩)),(13,.int .i64 nx)] (am gs [.slice As' s'.length cs'] 116::ak (.slice As' s'.length cs') s'::am gr rz 43::am go [.slice A (k+1) c,.slice Ab' b'.length cb',.slice Ai' i'.length ci',.slice Ao' o'.length co',.int .i64 st',.int .i64 m.T] 43::ak (.slice A (k+1) c) (li.map Prod.fst++ [(⟨f,p0,.slice Al l'.length cl,.slice As s.length cs⟩:aB)])::ak (.slice Al l'.length cl) l'::cM li::ak (.slice Ab' b'.length cb') b'::ak (.slice Ai' i'.length ci') i'::ak (.slice Ao' o'.length co') o':: [])) (KT:∀(y:az) (g:MA),(∃why,bN fs m (li.map Prod.snd) ⟨f,p1,l,s⟩ o= .inl why/\y= {m with S:=3,T:=why})->XW ⟨551,[]⟩ B w0 Q .ret [(4,.pointer (some ⟨gr,0,none⟩))] (am gr [.slice g.Af y.F.length g.cf,.slice g.Ab y.B.length g.cb,.slice g.Ai y.I.length g.ci,.slice g.Ao y.out.length g.co,.int .i64 y.S,.int .i64 y.T] 43::ak (.slice g.Af y.F.length g.cf) y.F::ak (.slice g.Ab y.B.length g.cb) y.B::ak (.slice g.Ai y.I.length g.ci) y.I::ak (.slice g.Ao y.out.length g.co) y.out:: [])):CW Tryz.prog ⟨551,[]⟩ B w0 (kU [true,true,true,true,true,true,true,true,true,true,true,false,true,false,true,true,true,true,true,true,true,true,true,true,true,true,true,true,true,true,true,true,true,true,true,true,true,true,true,true,true,true,true,true,true,false] (gt Tryz.f51)) Q [(3,.pointer (some ⟨gm,0,none⟩)),(4,.pointer (some ⟨gr,0,none⟩)),(5,.pointer (some ⟨go,0,none⟩)),(6,.pointer (some ⟨ab A,ao A+k*4,none⟩)),(9,.pointer (some ⟨gs,0,none⟩)),(10,.pointer (some ⟨gn,0,none⟩)),(12,.func (.func 111) #[] #[.pointer (some ⟨gs,0,none⟩),.pointer (some ⟨gn,0,none⟩),.pointer (some ⟨go,0,none⟩)]),(13,.int .i64 p1)] [am gs [.slice As s.length cs] 116,ak (.slice As s.length cs) s,am gp [.slice Ap fs.length cp] 24,am gm [.slice a.Af m.F.length a.cf,.slice a.Ab m.B.length a.cb,.slice a.Ai m.I.length a.ci,.slice a.Ao m.out.length a.co,.int .i64 m.S,.int .i64 m.T] 43,am gr rz 43,am go [.slice A (k+1) c,.slice Ab m.B.length cb,.slice Ai m.I.length ci,.slice Ao m.out.length co,.int .i64 m.S,.int .i64 m.T] 43,am gc [.int .i64 o.c,.int .i64 o.a] 86,am gf [fx0,fx1,.int .i64 fr,fx3] 84,am gn [.int .i64 (s.length:Int)] 3,ak (.slice A (k+1) c) (li.map Prod.fst++ [(⟨f,p0,.slice Al l.length cl,.slice As s.length cs⟩:aB)]),ak (.slice Al l.length cl) l,cM li,ak (.slice Ab m.B.length cb) m.B,ak (.slice Ai m.I.length ci) m.I,ak (.slice Ao m.out.length co) m.out]:=by
 have hsl:=R.sl
 have h1:3<=s.length:=R.nd.three hc
 have hlen:=R.nd.set hc
 obtain⟨z0,z1,z2,z3,z4,z5,rfl⟩:∃z0 z1 z2 z3 z4 z5,rz= [z0,z1,z2,z3,z4,z5]:=oK rz hrz
 have hv:s.getD (s.length - 1) default=aF s:=eG.symm
 have hvi:aH (aF s).n:=by rw[eG];exact R.si _ (cI (by omega))
 have hv2:s.getD (s.length - 2) default=aF (dl s):=(jI (by omega)).symm
 have hvi2:aH (aF (dl s)).n:=by rw[jI (by omega)];exact R.si _ (cI (by omega))
 have hv3:s.getD (s.length - 3) default=aF (dl (dl s)):=(EZ (by omega)).symm
 have hd:=NG s
 refine dY (fun w h=>gG h (xs:=s) (.s .a)) fun hcap=>?_
 have hbl:=fZ R.bl
 have hbn:((blk m.B (aF (dl (dl s))).n).length:Int)<=40:=C7 R.bl _
 refine cc<|aj ?_
 refine oE (fN rfl rfl rfl N5 (fun w hw=>pm gs gn go s.length m.B.length As Ab cs cb (.slice A (k+1) c) (.slice Ai m.I.length ci) (.slice Ao m.out.length co) (.int .i64 m.S) (.int .i64 m.T) s m.B 3 (aF (dl (dl s))) rfl rfl ⟨by decide,by omega⟩ hv3 hlen w (hw.msub (.s fc (.s fc (.s fc (.s fc (.s fc .r)))))))) (fun g _=>aj ?_)
 refine cK (t:=418) (v':= .bool (decide ((aF (dl (dl s))).n=0))) rfl (by rw[Bool.not_not]) ?_
 refine eo rfl (fun h0=>?_) (fun h0=>?_)
 ·have h0:(aF (dl (dl s))).n=0:=h0
  simp only[if_pos h0]
  refine aj ?_
  refine eb rfl pD (fun w hw=>iC a m 1 (by decide) w (R.hm.ro hw) R.fit) (fun g _=>?_)
  refine dr (cV _ fc cX rfl rfl rfl rfl rfl (by rfl) rfl (by rfl)) rfl rfl (fun _ _=>?_)
  refine bH<|ik (eL ?_)
  refine eQ (KT {m with S:=3,T:=1} g ⟨1,by dsimp only[bN];rw[if_neg (by omega)];rw[if_neg (by omega)];rw[if_neg (by omega)];rw[if_neg (by omega)];rw[if_neg (by omega)];rw[if_neg (by omega)];rw[if_neg (by omega)];rw[if_neg (by omega)];rw[if_neg (by omega)];rw[if_neg (by omega)];rw[if_neg (by omega)];rw[if_neg (by omega)];rw[if_neg (by omega)];rw[if_neg (by omega)];dsimp only[gA];rw[if_neg (by omega)];rw[if_neg (by omega)];rw[if_pos hc,if_pos h0],rfl⟩) ⟨rfl,trivial⟩ me
 have h0:¬(aF (dl (dl s))).n=0:=h0
 simp only[if_neg h0]
 refine aj ?_
 refine bh (t:=423) (v':= .int .i64 ((s.length - 2:Nat):Int)) rfl (by congr 1;omega) ?_
 refine cS ((s.length - 2)) rfl ((SF.own (xs:=s) rfl fc))<|aj ?_
 refine eH rfl (fun w hw=>(SF.val (SF.own rfl fc) (show s.length - 2<s.length by omega) default) w hw 1 _ rfl)<|aj ?_
 rw[hv2]
 refine bX rfl jA (fun w hw=>(fk (aF (dl s)).n 0 (((blk m.B (aF (dl (dl s))).n).length:Int) - 1) w).mono fun e w' h=>by obtain⟨h1,rfl⟩:=h;exact⟨h1,Below.refl _ _⟩)<|aj ?_
 refine cK (t:=431) (v':= .bool (!decide (0<=(aF (dl s)).n/\(aF (dl s)).n<(blk m.B (aF (dl (dl s))).n).length))) rfl (by rw[zq]) ?_
 refine jq rfl (fun q1=>?_) (fun q1=>?_)
 ·have q1:¬(0<=(aF (dl s)).n/\(aF (dl s)).n<(blk m.B (aF (dl (dl s))).n).length):=q1
  refine aj ?_
  refine eb rfl pD (fun w hw=>iC a m 2 (by decide) w (R.hm.ro hw) R.fit) (fun g _=>?_)
  refine dr (cV _ fc cX rfl rfl rfl rfl rfl (by rfl) rfl (by rfl)) rfl rfl (fun _ _=>?_)
  refine bH<|ik (eL ?_)
  refine eQ (KT {m with S:=3,T:=2} g ⟨2,by dsimp only[bN];rw[if_neg (by omega)];rw[if_neg (by omega)];rw[if_neg (by omega)];rw[if_neg (by omega)];rw[if_neg (by omega)];rw[if_neg (by omega)];rw[if_neg (by omega)];rw[if_neg (by omega)];rw[if_neg (by omega)];rw[if_neg (by omega)];rw[if_neg (by omega)];rw[if_neg (by omega)];rw[if_neg (by omega)];rw[if_neg (by omega)];dsimp only[gA];rw[if_neg (by omega)];rw[if_neg (by omega)];rw[if_pos hc,if_neg h0,if_pos q1],rfl⟩) ⟨rfl,trivial⟩ me
 have q1:0<=(aF (dl s)).n/\(aF (dl s)).n<(blk m.B (aF (dl (dl s))).n).length:=q1
 have q2:(aF (dl s)).n<((m.B.getD ((aF (dl (dl s))).n - 1).toNat []).length:Int):=q1.2
 have hpl:(put m.B (aF (dl (dl s))).n (aF (dl s)).n (aF s).n).length=m.B.length:=by unfold put;rw[ea]
 refine aj ?_
 refine bz [0,3,6,9,12,15,18,21,24,27,30,33,36,39,44] [14] rfl<|aj ?_
 refine cC (t:=437) (v':= .int .i64 ((s.length - 2:Nat):Int)) rfl (by congr 1;omega) ?_
 refine tE rfl (bg (k:=(s.length - 2)) ax aI (SF.own (xs:=s) rfl fc) (by omega) rfl rfl rfl)<|aj ?_
 refine tE rfl (bQ (fun w hw=>(SF.val (SF.own rfl fc) (show s.length - 2<s.length by omega) default) w hw 1 _ rfl) rfl rfl be)<|aj ?_
 rw[hv2]
 refine cC (t:=443) (v':= .int .i64 ((s.length - 1:Nat):Int)) rfl (by congr 1;omega) ?_
 refine tE rfl (bg (k:=(s.length - 1)) ax aI (SF.own (xs:=s) rfl fc) (by omega) rfl rfl rfl)<|aj ?_
 refine tE rfl (bQ (fun w hw=>(SF.val (SF.own rfl fc) (show s.length - 1<s.length by omega) default) w hw 1 _ rfl) rfl rfl be) ?_
 rw[hv]
 refine cC (t:=440) (v':= .int .i64 (((aF (dl s)).n.toNat:Nat):Int)) rfl (by congr 1;omega) ?_
 refine tE rfl (bg (k:=(aF (dl s)).n.toNat) aw bj (SF.rin (k:=((aF (dl (dl s))).n - 1).toNat) rfl fc) (by omega) rfl rfl rfl) ?_
 refine pE rfl (ET (A:=Ab) (m:=m.B.length) (c:=cb) (k:=((aF (dl (dl s))).n - 1).toNat) (q:=(aF (dl s)).n.toNat) (xs':=put m.B (aF (dl (dl s))).n (aF (dl s)).n (aF s).n) rfl fc (by have:=q1.2;unfold blk at this;omega) hvi bj rfl rfl rfl) (fun _ _=>aj ?_)
 refine bh (t:=450) (v':= .int .i64 ((dl (dl (dl s))).length:Int)) rfl (by congr 1;omega) ?_
 refine sE (ij (k:=(dl (dl (dl s))).length) ax aI (by omega) rfl rfl rfl) ?_
 refine dr (cV _ fc ft rfl rfl rfl rfl rfl (by rfl) rfl (by rfl)) rfl rfl (fun _ _=>?_)
 refine rk (dl (dl (dl s))) fc (NE s) ?_
 refine iM<|eQ (K (dl (dl (dl s))) As cs l (put m.B (aF (dl (dl s))).n (aF (dl s)).n (aF s).n) Ab cb m.I Ai ci m.out Ao co m.S p1 ⟨R.pi.2.2,R.hms⟩ (by dsimp only[bN];rw[if_neg (by omega)];rw[if_neg (by omega)];rw[if_neg (by omega)];rw[if_neg (by omega)];rw[if_neg (by omega)];rw[if_neg (by omega)];rw[if_neg (by omega)];rw[if_neg (by omega)];rw[if_neg (by omega)];rw[if_neg (by omega)];rw[if_neg (by omega)];rw[if_neg (by omega)];rw[if_neg (by omega)];rw[if_neg (by omega)];dsimp only[gA];rw[if_neg (by omega)];rw[if_neg (by omega)];rw[if_pos hc,if_neg h0,if_neg (fun h=>h q1)])) ⟨rfl,rfl,rfl,rfl,rfl,trivial⟩ (fun w h=>by rw[hpl];exact h.msub ms)
theorem PU (R:mh B w0 fs m a li k Ap cp f p0 p1 l s o fr) (hc:o.c=19) (K:∀(s':List aC) (As':Option Addr) (cs':Nat) (l':List aC) (b':List (List Int)) (Ab':Option Addr) (cb':Nat) (i':List Int) (Ai':Option Addr) (ci':Nat) (o':List Int) (Ao':Option Addr) (co':Nat) (st' nx:Int),aH nx/\aH st'->bN fs m (li.map Prod.snd) ⟨f,p1,l,s⟩ o= .inr ⟨li.map Prod.snd++ [⟨f,nx,l',s'⟩],b',i',o',st',m.T⟩->XW ⟨551,[]⟩ B w0 Q .normal [(4,.pointer (some ⟨gr,0,none⟩)),(5,.pointer (some ⟨go,0,none⟩)),(6,.pointer (some ⟨ab A,ao A+k*4,none⟩)),(9,.pointer (some ⟨gs,0,none⟩)),(13,.int .i64 nx)] (am gs [.slice As' s'.length cs'] 116::ak (.slice As' s'.length cs') s'::am gr rz 43::am go [.slice A (k+1) c,.slice Ab' b'.length cb',.slice Ai' i'.length ci',.slice Ao' o'.length co',.int .i64 st',.int .i64 m.T] 43::ak (.slice A (k+1) c) (li.map Prod.fst++ [(⟨f,p0,.slice Al l'.length cl,.slice As s.length cs⟩:aB)])::ak (.slice Al l'.length cl) l'::cM li::ak (.slice Ab' b'.length cb') b'::ak (.slice Ai' i'.length ci') i'::ak (.slice Ao' o'.length co') o':: [])):CW Tryz.prog ⟨551,[]⟩ B w0 (kU [true,true,true,true,true,true,true,true,true,true,true,false,true,false,true,true,true,true,true,true,true,true,true,true,true,true,true,true,true,true,true,true,true,true,true,true,true,true,true,true,true,true,true,true,true,true,true,true,true,true,true,false] (gt Tryz.f51)) Q [(4,.pointer (some ⟨gr,0,none⟩)),(5,.pointer (some ⟨go,0,none⟩)),(6,.pointer (some ⟨ab A,ao A+k*4,none⟩)),(9,.pointer (some ⟨gs,0,none⟩)),(10,.pointer (some ⟨gn,0,none⟩)),(11,.func (.func 109) #[] #[]),(12,.func (.func 111) #[] #[.pointer (some ⟨gs,0,none⟩),.pointer (some ⟨gn,0,none⟩),.pointer (some ⟨go,0,none⟩)]),(13,.int .i64 p1)] [am gs [.slice As s.length cs] 116,ak (.slice As s.length cs) s,am gp [.slice Ap fs.length cp] 24,am gm [.slice a.Af m.F.length a.cf,.slice a.Ab m.B.length a.cb,.slice a.Ai m.I.length a.ci,.slice a.Ao m.out.length a.co,.int .i64 m.S,.int .i64 m.T] 43,am gr rz 43,am go [.slice A (k+1) c,.slice Ab m.B.length cb,.slice Ai m.I.length ci,.slice Ao m.out.length co,.int .i64 m.S,.int .i64 m.T] 43,am gc [.int .i64 o.c,.int .i64 o.a] 86,am gf [fx0,fx1,.int .i64 fr,fx3] 84,am gn [.int .i64 (s.length:Int)] 3,ak (.slice A (k+1) c) (li.map Prod.fst++ [(⟨f,p0,.slice Al l.length cl,.slice As s.length cs⟩:aB)]),ak (.slice Al l.length cl) l,cM li,ak (.slice Ab m.B.length cb) m.B,ak (.slice Ai m.I.length ci) m.I,ak (.slice Ao m.out.length co) m.out]:=by
 have hsl:=R.sl
 have h1:1<=s.length:=R.nd.one (by omega)
 have hlen:=R.isn hc
 have hv:s.getD (s.length - 1) default=aF s:=eG.symm
 have hvi:aH (aF s).n:=by rw[eG];exact R.si _ (cI (by omega))
 have e1:∀v:aC,(dl s++ [v]).length=s.length:=fun v=>by rw[<-pG h1 v,ea]
 have hbl:=fZ R.bl
 refine cc<|aj ?_
 refine oE (fN rfl rfl rfl N5 (fun w hw=>pm gs gn go s.length m.B.length As Ab cs cb (.slice A (k+1) c) (.slice Ai m.I.length ci) (.slice Ao m.out.length co) (.int .i64 m.S) (.int .i64 m.T) s m.B 1 (aF s) rfl rfl ⟨by decide,by omega⟩ hv hlen w (hw.msub (.s fc (.s fc (.s fc (.s fc (.s fc .r)))))))) (fun g _=>aj ?_)
 refine bz [0,3,6,9,14,15,20] [6] rfl<|aj ?_
 refine pE rfl (ko rfl rfl rfl nL (fun w hw=>kD 1 (by decide) w)) (fun _ _=>?_)
 refine cC (t:=486) (v':= .int .i64 ((s.length - 1:Nat):Int)) rfl (by congr 1;omega) ?_
 refine tE rfl (bg (k:=(s.length - 1)) ax aI (SF.own (xs:=s) rfl fc) (by omega) rfl rfl rfl) ?_
 refine pE rfl (fS (α:=aC) (A:=As) (c:=cs) (cA 1) default (xs':=dl s++ [cA 1]) (pG h1 _).symm fc (by omega) (kK _) aI rfl rfl rfl rfl rfl rfl rfl rfl) (fun _ _=>cQ (fun h0=>?_) (fun h0=>?_))
 ·have h0:¬(aF s).n=0:=h0
  simp only[if_neg h0]
  refine bz [0,3,6,9,14,15,20] [6] rfl<|aj ?_
  refine pE rfl (ko rfl rfl rfl nL (fun w hw=>kD 0 (by decide) w)) (fun _ _=>?_)
  refine cC (t:=493) (v':= .int .i64 ((s.length - 1:Nat):Int)) rfl (by congr 1;omega) ?_
  refine tE rfl (bg (k:=(s.length - 1)) ax aI (SF.own (xs:=dl s++ [cA 1]) (e1 _) fc) (by omega) rfl rfl rfl) ?_
  refine pE rfl (fS (α:=aC) (A:=As) (c:=cs) (cA 0) default (xs':=dl s++ [cA 0]) (vX (dl s) _ _ (iG s)).symm fc (by omega) (kK _) aI rfl rfl rfl rfl rfl rfl (by rw[qH _ _ _ (iG s)];rfl) rfl) (fun _ _=>?_)
  refine wa fc ?_
  refine bu<|eQ (K (dl s++ [cA 0]) As cs l m.B Ab cb m.I Ai ci m.out Ao co m.S p1 ⟨R.pi.2.2,R.hms⟩ (by dsimp only[bN];rw[if_neg (by omega)];rw[if_neg (by omega)];rw[if_neg (by omega)];rw[if_neg (by omega)];rw[if_neg (by omega)];rw[if_neg (by omega)];rw[if_neg (by omega)];rw[if_neg (by omega)];rw[if_neg (by omega)];rw[if_neg (by omega)];rw[if_neg (by omega)];rw[if_neg (by omega)];rw[if_neg (by omega)];rw[if_neg (by omega)];dsimp only[gA];rw[if_neg (by omega)];rw[if_neg (by omega)];rw[if_neg (by omega)];rw[if_neg (by omega)];rw[if_neg (by omega)];rw[if_pos hc,if_neg h0])) ⟨rfl,rfl,rfl,rfl,rfl,trivial⟩ (fun w h=>by rw[e1];exact h.msub ms)
 have h0:(aF s).n=0:=h0
 simp only[if_pos h0]
 refine aj ?_
 refine eQ (K (dl s++ [cA 1]) As cs l m.B Ab cb m.I Ai ci m.out Ao co m.S p1 ⟨R.pi.2.2,R.hms⟩ (by dsimp only[bN];rw[if_neg (by omega)];rw[if_neg (by omega)];rw[if_neg (by omega)];rw[if_neg (by omega)];rw[if_neg (by omega)];rw[if_neg (by omega)];rw[if_neg (by omega)];rw[if_neg (by omega)];rw[if_neg (by omega)];rw[if_neg (by omega)];rw[if_neg (by omega)];rw[if_neg (by omega)];rw[if_neg (by omega)];rw[if_neg (by omega)];dsimp only[gA];rw[if_neg (by omega)];rw[if_neg (by omega)];rw[if_neg (by omega)];rw[if_neg (by omega)];rw[if_neg (by omega)];rw[if_pos hc,if_pos h0])) ⟨rfl,rfl,rfl,rfl,rfl,trivial⟩ (fun w h=>by rw[e1];exact h.msub ms)
theorem PZ (R:mh B w0 fs m a li k Ap cp f p0 p1 l s o fr) (hc:o.c=14) (hrz:rz.length=6) (K:∀(s':List aC) (As':Option Addr) (cs':Nat) (l':List aC) (b':List (List Int)) (Ab':Option Addr) (cb':Nat) (i':List Int) (Ai':Option Addr) (ci':Nat) (o':List Int) (Ao':Option Addr) (co':Nat) (st' nx:Int),aH nx/\aH st'->bN fs m (li.map Prod.snd) ⟨f,p1,l,s⟩ o= .inr ⟨li.map Prod.snd++ [⟨f,nx,l',s'⟩],b',i',o',st',m.T⟩->XW ⟨551,[]⟩ B w0 Q .normal [(4,.pointer (some ⟨gr,0,none⟩)),(5,.pointer (some ⟨go,0,none⟩)),(6,.pointer (some ⟨ab A,ao A+k*4,none⟩)),(9,.pointer (some ⟨gs,0,none⟩)),(13,.int .i64 nx)] (am gs [.slice As' s'.length cs'] 116::ak (.slice As' s'.length cs') s'::am gr rz 43::am go [.slice A (k+1) c,.slice Ab' b'.length cb',.slice Ai' i'.length ci',.slice Ao' o'.length co',.int .i64 st',.int .i64 m.T] 43::ak (.slice A (k+1) c) (li.map Prod.fst++ [(⟨f,p0,.slice Al l'.length cl,.slice As s.length cs⟩:aB)])::ak (.slice Al l'.length cl) l'::cM li::ak (.slice Ab' b'.length cb') b'::ak (.slice Ai' i'.length ci') i'::ak (.slice Ao' o'.length co') o':: [])) (KT:∀(y:az) (g:MA),(∃why,bN fs m (li.map Prod.snd) ⟨f,p1,l,s⟩ o= .inl why/\y= {m with S:=3,T:=why})->XW ⟨551,[]⟩ B w0 Q .ret [(4,.pointer (some ⟨gr,0,none⟩))] (am gr [.slice g.Af y.F.length g.cf,.slice g.Ab y.B.length g.cb,.slice g.Ai y.I.length g.ci,.slice g.Ao y.out.length g.co,.int .i64 y.S,.int .i64 y.T] 43::ak (.slice g.Af y.F.length g.cf) y.F::ak (.slice g.Ab y.B.length g.cb) y.B::ak (.slice g.Ai y.I.length g.ci) y.I::ak (.slice g.Ao y.out.length g.co) y.out:: [])):CW Tryz.prog ⟨551,[]⟩ B w0 (kU [true,true,true,true,true,true,true,true,true,true,true,false,true,false,true,true,true,true,true,true,true,true,true,true,true,true,true,true,true,true,true,true,true,true,true,true,true,true,true,true,true,false] (gt Tryz.f51)) Q [(3,.pointer (some ⟨gm,0,none⟩)),(4,.pointer (some ⟨gr,0,none⟩)),(5,.pointer (some ⟨go,0,none⟩)),(6,.pointer (some ⟨ab A,ao A+k*4,none⟩)),(9,.pointer (some ⟨gs,0,none⟩)),(10,.pointer (some ⟨gn,0,none⟩)),(13,.int .i64 p1)] [am gs [.slice As s.length cs] 116,ak (.slice As s.length cs) s,am gp [.slice Ap fs.length cp] 24,am gm [.slice a.Af m.F.length a.cf,.slice a.Ab m.B.length a.cb,.slice a.Ai m.I.length a.ci,.slice a.Ao m.out.length a.co,.int .i64 m.S,.int .i64 m.T] 43,am gr rz 43,am go [.slice A (k+1) c,.slice Ab m.B.length cb,.slice Ai m.I.length ci,.slice Ao m.out.length co,.int .i64 m.S,.int .i64 m.T] 43,am gc [.int .i64 o.c,.int .i64 o.a] 86,am gf [fx0,fx1,.int .i64 fr,fx3] 84,am gn [.int .i64 (s.length:Int)] 3,ak (.slice A (k+1) c) (li.map Prod.fst++ [(⟨f,p0,.slice Al l.length cl,.slice As s.length cs⟩:aB)]),ak (.slice Al l.length cl) l,cM li,ak (.slice Ab m.B.length cb) m.B,ak (.slice Ai m.I.length ci) m.I,ak (.slice Ao m.out.length co) m.out]:=by
 have hsl:=R.sl
 have h1:1<=s.length:=R.nd.one (by omega)
 obtain⟨z0,z1,z2,z3,z4,z5,rfl⟩:∃z0 z1 z2 z3 z4 z5,rz= [z0,z1,z2,z3,z4,z5]:=oK rz hrz
 have hv:s.getD (s.length - 1) default=aF s:=eG.symm
 have hvi:aH (aF s).n:=by rw[eG];exact R.si _ (cI (by omega))
 have e1:∀v:aC,(dl s++ [v]).length=s.length:=fun v=>by rw[<-pG h1 v,ea]
 obtain⟨hbl,hb40⟩:=fZ R.bl
 refine cc<|aj ?_
 refine bh (t:=332) (v':= .int .i64 ((s.length - 1:Nat):Int)) rfl (by congr 1;omega) ?_
 refine cS ((s.length - 1)) rfl ((SF.own (xs:=s) rfl fc))<|aj ?_
 refine eH rfl (fun w hw=>(SF.val (SF.own rfl fc) (show s.length - 1<s.length by omega) default) w hw 1 _ rfl)<|aj ?_
 rw[hv]
 have hz39:(aF s).n<=2147483647:=by rw[eG];exact R.sI _ (cI (by omega))
 refine nS 13 rfl [(3,_),(4,_),(5,_),(6,_),(9,_),(10,_),(13,_),(18,_)] [(351,.bool (decide (iu m.B (aF s).n≠0)))] ⟨rfl,rfl,rfl,rfl,rfl,rfl,rfl,rfl,trivial⟩ (fun K=>?_) ?_
 ·refine jo (t:=338) rfl (fun q1=>?_) (fun q1=>?_)
  ·have q1:=of_decide_eq_true q1
   refine ay ?_
   refine ay ?_
   refine ay ?_
   refine ay ?_
   refine ay ?_
   refine ay ?_
   refine ay ?_
   refine ay ?_
   refine ay ?_
   refine ay ?_
   refine ay ?_
   refine ay ?_
   refine ay ?_
   refine bh (t:=351) (v':= .bool (decide (iu m.B (aF s).n≠0))) rfl (congrArg Value.bool (decide_eq_true (by unfold iu;rw[if_pos q1];decide)).symm) ?_
   exact iL K ⟨rfl,rfl,rfl,rfl,rfl,rfl,rfl,rfl,rfl,trivial⟩
  have q1:=of_decide_eq_false q1
  refine dG 344 (fun q2=>?_) (fun q2=>?_)
  ·have q2:m.B.length=8:=by have:=of_decide_eq_true q2;omega
   refine ay ?_
   refine ay ?_
   refine ay ?_
   refine ay ?_
   refine ay ?_
   refine ay ?_
   refine ay ?_
   refine bh (t:=351) (v':= .bool (decide (iu m.B (aF s).n≠0))) rfl (congrArg Value.bool (decide_eq_true (by unfold iu;rw[if_neg q1,if_pos (.inl q2)];decide)).symm) ?_
   exact iL K ⟨rfl,rfl,rfl,rfl,rfl,rfl,rfl,rfl,rfl,trivial⟩
  have q2:¬m.B.length=8:=by have:=of_decide_eq_false q2;omega
  refine aj ?_
  refine bX rfl Tryz.call82 (fun w hw=>(xq (.slice Ab m.B.length cb) m.B w (SF.at_ (SF.own rfl fc) hw) hbl).mono fun e w' h=>by obtain⟨h1,rfl⟩:=h;exact⟨h1,Below.refl _ _⟩) ?_
  refine ay ?_
  refine dT (rs rfl rfl rfl (by omega)) rfl rfl<|ay ?_
  refine ay ?_
  refine bh (t:=351) (v':= .bool (decide (iu m.B (aF s).n≠0))) rfl (congrArg Value.bool (decide_eq_decide.2 (by unfold iu;rw[if_neg q1];split <;> omega))) ?_
  exact iL K ⟨rfl,rfl,rfl,rfl,rfl,rfl,rfl,rfl,rfl,trivial⟩
 refine av (fun q3=>?_) (fun q3=>?_)
 ·have q3:iu m.B (aF s).n≠0:=q3
  refine aj ?_
  refine eb rfl pD (fun w hw=>iC a m 3 (by decide) w (R.hm.ro hw) R.fit) (fun g _=>?_)
  refine dr (cV _ fc cX rfl rfl rfl rfl rfl (by rfl) rfl (by rfl)) rfl rfl (fun _ _=>?_)
  refine bH<|ik (eL ?_)
  refine eQ (KT {m with S:=3,T:=3} g ⟨3,by dsimp only[bN];rw[if_neg (by omega)];rw[if_neg (by omega)];rw[if_neg (by omega)];rw[if_neg (by omega)];rw[if_neg (by omega)];rw[if_neg (by omega)];rw[if_neg (by omega)];rw[if_neg (by omega)];rw[if_neg (by omega)];rw[if_neg (by omega)];rw[if_neg (by omega)];rw[if_neg (by omega)];rw[if_neg (by omega)];rw[if_neg (by omega)];dsimp only[gA];rw[if_pos hc,if_pos q3],rfl⟩) ⟨rfl,trivial⟩ me
 have q3:iu m.B (aF s).n=0:=gP q3
 obtain⟨g0,g1⟩:=FZ q3
 obtain⟨z,hz⟩:∃z:Nat,(aF s).n=z:=⟨(aF s).n.toNat,by omega⟩
 have hzt:(aF s).n.toNat=z:=by omega
 refine aj ?_
 refine bz [0,3,6,11,14,17,19,23] [5,6,7] rfl<|aj ?_
 refine cC (t:=356) (v':= .int .i64 (z:Int)) rfl (by rw[hz]) ?_
 refine pE rfl (mU (α:=Int) (m:=z) 0 aw kz rfl (fun w=>⟨⟨rfl,by simp[aH]⟩,fun _ h=>h⟩) rfl (by omega) rfl rfl rfl) (fun gz _=>aj ?_)
 intro g1 _
 refine pE rfl (cH (α:=List Int) (bytes:=24) (List.replicate z 0) [ak (.slice (some ⟨gz,0,none⟩) z z) (List.replicate z (0:Int))] rfl dX (aV oF) rfl (FW (R:=ak (.slice Ab m.B.length cb) m.B) fc fc fc) xR (by omega) (by omega) rfl rfl rfl) (fun⟨A4,c4⟩ _=>?_)
 refine aO ?_
 refine bh (t:=363) (v':= .int .i64 ((s.length - 1:Nat):Int)) rfl (by congr 1;omega) ?_
 refine cS ((s.length - 1)) rfl ((SF.own (xs:=s) rfl fc)) ?_
 refine oE (fS (α:=aC) (A:=As) (c:=cs) ⟨true,((m.B++ [List.replicate z 0]).length:Int)⟩ default (xs':=dl s++ [⟨true,((m.B++ [List.replicate z 0]).length:Int)⟩]) (pG h1 _).symm fc (by omega) (show aH ((m.B++ [List.replicate z 0]).length:Int) by rw[ar];unfold aH;simp only[aP];omega) aI rfl rfl rfl rfl rfl rfl rfl rfl) (fun _ _=>?_)
 refine iM<|eQ (K (dl s++ [⟨true,((m.B++ [List.replicate z 0]).length:Int)⟩]) As cs l (m.B++ [List.replicate z 0]) A4 c4 m.I Ai ci m.out Ao co m.S p1 ⟨R.pi.2.2,R.hms⟩ (by dsimp only[bN];rw[if_neg (by omega)];rw[if_neg (by omega)];rw[if_neg (by omega)];rw[if_neg (by omega)];rw[if_neg (by omega)];rw[if_neg (by omega)];rw[if_neg (by omega)];rw[if_neg (by omega)];rw[if_neg (by omega)];rw[if_neg (by omega)];rw[if_neg (by omega)];rw[if_neg (by omega)];rw[if_neg (by omega)];rw[if_neg (by omega)];dsimp only[gA];rw[if_pos hc,if_neg (fun h=>h q3),hzt,ar];rfl)) ⟨rfl,rfl,rfl,rfl,rfl,trivial⟩ (fun w h=>by rw[e1];exact h.msub ms)
end
end
section
theorem I7 {s L:List aC} {a i:Nat} (h1:a+i<s.length) (h2:i<L.length):(s.drop a).take (i+1)++L.drop (i+1)=((s.drop a).take i++L.drop i).set i (s.getD (a+i) default):=by
 have hl:((s.drop a).take i).length=i:=by rw[aA,aL];omega
 have e1:(s.drop a).take (i+1)=(s.drop a).take i++ [s.getD (a+i) default]:=by
  rw[fe (s.drop a) i default (by rw[aL];omega),pu]
 rw[e1,tj _ _ (by omega),hl,pO]
 cases h:L.drop i with
 | nil=>have:=congrArg List.length h;rw[aL] at this;simp at this;omega
 | cons x r=>
  have e2:L.drop (i+1)=r:=by rw[<-List.drop_drop,h];rfl
  rw[e2,bD]
  rfl
theorem Kj {α:Type} [Ow α] {B:Nat} {w0:World} {H:List aJ} {A:Option Addr} {c:Nat} {s:List α} {w:World} (h1:1<=s.length) (h:Cw B w0 (ak (.slice A s.length c) s::H) w):Cw B w0 (ak (.slice (iU A 1 c (aE.k α)) (s.drop 1).length (c - 1)) (s.drop 1)::H) w:=by
 rw[aL]
 exact zg h1 h
section
variable {B:Nat} {w0:World} {Q:Exit->Act->World->Prop} (gp gm gr go gc gf gs gn k:Nat) (li:List (aB×aG)) (A Al As Ap Ab Ai Ao:Option Addr) (c cl cs cp cb ci co:Nat) (a:MA) (m:az) (f p0 p1 fr:Int) (l s:List aC) (o:bC) (fs:List au) (rz:List Value) (fx0 fx1 fx3:Value)
theorem PS (R:mh B w0 fs m a li k Ap cp f p0 p1 l s o fr) (hrz:rz.length=6) (K:∀(As':Option Addr) (cs':Nat) (Ai':Option Addr) (ci':Nat),m.I≠[]->XW ⟨551,[]⟩ B w0 Q .normal [(4,.pointer (some ⟨gr,0,none⟩)),(5,.pointer (some ⟨go,0,none⟩)),(6,.pointer (some ⟨ab A,ao A+k*4,none⟩)),(9,.pointer (some ⟨gs,0,none⟩)),(13,.int .i64 p1)] (am gs [.slice As' (s++ [cA (m.I.getD 0 0)]).length cs'] 116::ak (.slice As' (s++ [cA (m.I.getD 0 0)]).length cs') (s++ [cA (m.I.getD 0 0)])::am gr rz 43::am go [.slice A (k+1) c,.slice Ab m.B.length cb,.slice Ai' (m.I.drop 1).length ci',.slice Ao m.out.length co,.int .i64 0,.int .i64 m.T] 43::ak (.slice A (k+1) c) (li.map Prod.fst++ [(⟨f,p0,.slice Al l.length cl,.slice As s.length cs⟩:aB)])::ak (.slice Al l.length cl) l::cM li::ak (.slice Ab m.B.length cb) m.B::ak (.slice Ai' (m.I.drop 1).length ci') (m.I.drop 1)::ak (.slice Ao m.out.length co) m.out:: [])) (KR:∀g:MA,m.I= []->XW ⟨551,[]⟩ B w0 Q .ret [(4,.pointer (some ⟨gr,0,none⟩))] (am gr [.slice g.Af m.F.length g.cf,.slice g.Ab m.B.length g.cb,.slice g.Ai m.I.length g.ci,.slice g.Ao m.out.length g.co,.int .i64 1,.int .i64 m.T] 43::ak (.slice g.Af m.F.length g.cf) m.F::ak (.slice g.Ab m.B.length g.cb) m.B::ak (.slice g.Ai m.I.length g.ci) m.I::ak (.slice g.Ao m.out.length g.co) m.out:: [])):CW Tryz.prog ⟨551,[]⟩ B w0 (kU [true,true,true,true,true,true,true,true,true,true,true,false,true,false,true,true,true,true,true,true,true,true,true,true,true,true,true,true,true,true,true,true,true,true,true,true,true,true,true,true,true,true,true,true,true,true,true,true,true,true,true,true,true,true,true,false] (gt Tryz.f51)) Q [(4,.pointer (some ⟨gr,0,none⟩)),(5,.pointer (some ⟨go,0,none⟩)),(6,.pointer (some ⟨ab A,ao A+k*4,none⟩)),(9,.pointer (some ⟨gs,0,none⟩)),(11,.func (.func 109) #[] #[]),(13,.int .i64 p1)] [am gs [.slice As s.length cs] 116,ak (.slice As s.length cs) s,am gp [.slice Ap fs.length cp] 24,am gm [.slice a.Af m.F.length a.cf,.slice a.Ab m.B.length a.cb,.slice a.Ai m.I.length a.ci,.slice a.Ao m.out.length a.co,.int .i64 m.S,.int .i64 m.T] 43,am gr rz 43,am go [.slice A (k+1) c,.slice Ab m.B.length cb,.slice Ai m.I.length ci,.slice Ao m.out.length co,.int .i64 m.S,.int .i64 m.T] 43,am gc [.int .i64 o.c,.int .i64 o.a] 86,am gf [fx0,fx1,.int .i64 fr,fx3] 84,am gn [.int .i64 (s.length:Int)] 3,ak (.slice A (k+1) c) (li.map Prod.fst++ [(⟨f,p0,.slice Al l.length cl,.slice As s.length cs⟩:aB)]),ak (.slice Al l.length cl) l,cM li,ak (.slice Ab m.B.length cb) m.B,ak (.slice Ai m.I.length ci) m.I,ak (.slice Ao m.out.length co) m.out]:=by
 have hsl:=R.sl
 have hib:=R.ib
 obtain⟨z0,z1,z2,z3,z4,z5,rfl⟩:∃z0 z1 z2 z3 z4 z5,rz= [z0,z1,z2,z3,z4,z5]:=oK rz hrz
 refine dY (fun w h=>gG h (xs:=m.I) (A:=Ai) (m:=m.I.length) (c:=ci) fc) fun hcap=>?_
 refine cc<|av (fun h0=>?_) (fun h0=>?_)
 ·have h0:m.I= []:=aY (by have h0:(m.I.length:Int)=0:=h0;omega)
  refine cc<|bO<|dT (pJ (vs:= [_,_,_,_,_,_]) fc rP cX rfl rfl (by rfl) rfl) rfl rfl ?_
  refine dr (cV _ fc cX rfl rfl rfl rfl rfl (by rfl) rfl (by rfl)) rfl rfl (fun _ _=>?_)
  refine bH<|ik (eL ?_)
  refine eQ (KR ⟨A,c,Ab,cb,Ai,ci,Ao,co⟩ h0) ⟨rfl,trivial⟩ (fun w h=>by dsimp only;rw[R.mf,R.fs];exact(ne (li:=li) (h:=⟨f,p0,.slice Al l.length cl,.slice As s.length cs⟩) (x:=⟨f,p0,l,s⟩) R.hok ⟨rfl,rfl⟩ (h.msub (T:=ak (.slice A (k+1) c) (li.map Prod.fst++ [(⟨f,p0,.slice Al l.length cl,.slice As s.length cs⟩:aB)])::ak (.slice Al l.length cl) l::ak (.slice As s.length cs) s::cM li::am gr [.slice A (k+1) c,.slice Ab m.B.length cb,.slice Ai m.I.length ci,.slice Ao m.out.length co,.int .i64 1,.int .i64 m.T] 43::ak (.slice Ab m.B.length cb) m.B::ak (.slice Ai m.I.length ci) m.I::ak (.slice Ao m.out.length co) m.out:: []) ms)).msub ms)
 have h0:¬m.I.length=0:=by have h0:¬(m.I.length:Int)=0:=h0;omega
 have hz:aH (m.I.getD 0 0):=R.ii _ (cI (by omega))
 have fW:(m.I.drop 1).length=m.I.length - 1:=aL
 refine aj ?_
 refine bz [0,3,6,9,12,15,20,23,26,29] [8,9] rfl<|aj ?_
 refine tE rfl (bg (k:=0) aw bj (SF.own (xs:=m.I) rfl fc) (by omega) rfl rfl rfl) ?_
 refine tE rfl (bQ (SF.int (SF.own (xs:=m.I) rfl fc) (by omega)) rfl rfl be) ?_
 refine pE rfl (ko rfl rfl rfl nL (fun w hw=>kD (m.I.getD 0 0) hz w)) (fun _ _=>aj ?_)
 intro g1 _
 refine pE rfl (cH (α:=aC) (bytes:=16) (cA (m.I.getD 0 0)) [] rfl ax (aV du) rfl (eD (R:=ak (.slice As s.length cs) s) fc fc) (dm (kK _)) (by omega) (by omega) rfl rfl rfl) (fun⟨A3,c3⟩ _=>?_)
 refine aO ?_
 refine sE (zI (k:=(m.I.drop 1).length) aw bj ⟨by omega,by omega⟩ fW.symm rfl rfl rfl rfl)<|aj ?_
 refine iM<|eQ (K A3 c3 (iU Ai 1 ci 1) (ci - 1) (fun e=>h0 (by rw[e];rfl))) ⟨rfl,rfl,rfl,rfl,rfl,trivial⟩ (fun w h=>(Kj (s:=m.I) (A:=Ai) (c:=ci) (by omega) (h.msub (.s fc .r))).msub ms)
theorem P1 (R:mh B w0 fs m a li k Ap cp f p0 p1 l s o fr) (hc:o.c=12) (hrz:rz.length=6) (KT:∀(y:az) (g:MA),(∃why,bN fs m (li.map Prod.snd) ⟨f,p1,l,s⟩ o= .inl why/\y= {m with S:=3,T:=why})->XW ⟨551,[]⟩ B w0 Q .ret [(4,.pointer (some ⟨gr,0,none⟩))] (am gr [.slice g.Af y.F.length g.cf,.slice g.Ab y.B.length g.cb,.slice g.Ai y.I.length g.ci,.slice g.Ao y.out.length g.co,.int .i64 y.S,.int .i64 y.T] 43::ak (.slice g.Af y.F.length g.cf) y.F::ak (.slice g.Ab y.B.length g.cb) y.B::ak (.slice g.Ai y.I.length g.ci) y.I::ak (.slice g.Ao y.out.length g.co) y.out:: [])) (KR:∀(y:az) (g:MA),bN fs m (li.map Prod.snd) ⟨f,p1,l,s⟩ o= .inr y->XW ⟨551,[]⟩ B w0 Q .ret [(4,.pointer (some ⟨gr,0,none⟩))] (am gr [.slice g.Af y.F.length g.cf,.slice g.Ab y.B.length g.cb,.slice g.Ai y.I.length g.ci,.slice g.Ao y.out.length g.co,.int .i64 y.S,.int .i64 y.T] 43::ak (.slice g.Af y.F.length g.cf) y.F::ak (.slice g.Ab y.B.length g.cb) y.B::ak (.slice g.Ai y.I.length g.ci) y.I::ak (.slice g.Ao y.out.length g.co) y.out:: [])):CW Tryz.prog ⟨551,[]⟩ B w0 (kU [true,true,true,true,true,true,true,true,true,true,true,false,true,false,true,true,true,true,true,true,true,true,true,true,true,true,true,true,true,true,true,true,true,true,true,true,true,false] (gt Tryz.f51)) Q [(2,.pointer (some ⟨gp,0,none⟩)),(3,.pointer (some ⟨gm,0,none⟩)),(4,.pointer (some ⟨gr,0,none⟩)),(5,.pointer (some ⟨go,0,none⟩)),(6,.pointer (some ⟨ab A,ao A+k*4,none⟩)),(7,.pointer (some ⟨gc,0,none⟩)),(9,.pointer (some ⟨gs,0,none⟩)),(10,.pointer (some ⟨gn,0,none⟩)),(13,.int .i64 p1)] [am gs [.slice As s.length cs] 116,ak (.slice As s.length cs) s,am gp [.slice Ap fs.length cp] 24,am gm [.slice a.Af m.F.length a.cf,.slice a.Ab m.B.length a.cb,.slice a.Ai m.I.length a.ci,.slice a.Ao m.out.length a.co,.int .i64 m.S,.int .i64 m.T] 43,am gr rz 43,am go [.slice A (k+1) c,.slice Ab m.B.length cb,.slice Ai m.I.length ci,.slice Ao m.out.length co,.int .i64 m.S,.int .i64 m.T] 43,am gc [.int .i64 o.c,.int .i64 o.a] 86,am gf [fx0,fx1,.int .i64 fr,fx3] 84,am gn [.int .i64 (s.length:Int)] 3,ak (.slice A (k+1) c) (li.map Prod.fst++ [(⟨f,p0,.slice Al l.length cl,.slice As s.length cs⟩:aB)]),ak (.slice Al l.length cl) l,cM li,ak (.slice Ab m.B.length cb) m.B,ak (.slice Ai m.I.length ci) m.I,ak (.slice Ao m.out.length co) m.out]:=by
 have hsl:=R.sl
 have hk6:=R.k6
 obtain⟨hcf,⟨hc0,hc1⟩,hc2,hc3⟩:=R.nd.call hc
 obtain⟨z0,z1,z2,z3,z4,z5,rfl⟩:∃z0 z1 z2 z3 z4 z5,rz= [z0,z1,z2,z3,z4,z5]:=oK rz hrz
 have hlm:(li.map Prod.fst).length=k:=by rw[aQ];exact R.hk
 have hlm2:(li.map Prod.snd).length=k:=by rw[aQ];exact R.hk
 have hmf:=R.mf
 refine dY (fun w h=>gG h (xs:=s) (.s .a)) fun hcap=>?_
 refine cc<|av (fun h0=>?_) (fun h0=>?_)
 ·have h0:k=5:=by have h0:(m.F.length:Int)=6:=h0;omega
  refine aj ?_
  refine eb rfl pD (fun w hw=>iC a m 4 (by decide) w (R.hm.ro hw) R.fit) (fun g _=>?_)
  refine dr (cV _ fc cX rfl rfl rfl rfl rfl (by rfl) rfl (by rfl)) rfl rfl (fun _ _=>?_)
  refine bH<|ik (eL ?_)
  refine eQ (KT {m with S:=3,T:=4} g ⟨4,by dsimp only[bN];rw[if_neg (by omega),if_neg (by omega),if_neg (by omega),if_neg (by omega),if_neg (by omega),if_neg (by omega),if_neg (by omega),if_neg (by omega),if_neg (by omega),if_neg (by omega),if_neg (by omega),if_pos hc,if_pos (by omega)],rfl⟩) ⟨rfl,trivial⟩ me
 have h0:¬k=5:=by have h0:¬(m.F.length:Int)=6:=h0;omega
 obtain⟨q,hq⟩:∃q:Nat,o.a.toNat=q:=⟨_,rfl⟩
 rw[hq] at hc0 hc1 hc2 hc3
 have hc2:(aq fs q).params<=s.length:=hc2
 have hqf:q<fs.length:=by omega
 obtain⟨A1,c1,A2,c2,hl1,hl2,hi,hcell⟩:=R.hp.fn hqf
 have hF:(dg (aq fs q).L).length=(aq fs q).L.length:=kM _
 obtain⟨P,hP⟩:∃P:Nat,(aq fs q).params=P:=⟨(aq fs q).params.toNat,by omega⟩
 have bp:=bE R.hp
 refine aj ?_
 refine bh (t:=241) (v':= .int .i64 (q:Int)) rfl (by congr 1;omega) ?_
 refine cS (q) rfl ((.ro R.hp)) ?_
 refine iY rfl (hcell _)<|aj ?_
 refine fun g1 _=>aj ?_
 refine oE (eR rfl rfl rfl Tryz.call113 (fun w hw=>FN (aq fs q).params (aq fs q).result A1 A2 c1 c2 _ (aq fs q).L w (hw.ro hl1) (by omega))) (fun⟨A3,c3⟩ _=>?_)
 refine aO ?_
 refine dA (fun g:Nat=>g<=P) (fun g=>P - g) (fun g=> [(4,.pointer (some ⟨gr,0,none⟩)),(5,.pointer (some ⟨go,0,none⟩)),(6,.pointer (some ⟨ab A,ao A+k*4,none⟩)),(7,.pointer (some ⟨gc,0,none⟩)),(9,.pointer (some ⟨gs,0,none⟩)),(10,.pointer (some ⟨gn,0,none⟩)),(13,.int .i64 p1),(14,.pointer (some ⟨g1,0,none⟩)),(15,.slice A3 (dg (aq fs q).L).length c3),(16,.int .i64 (g:Int))]) (fun g=> [ak (.slice A3 (dg (aq fs q).L).length c3) (((s.drop (s.length - P)).take g++(dg (aq fs q).L).drop g)),am g1 [.int .i64 (aq fs q).params,.slice A1 (aq fs q).L.length c1,.int .i64 (aq fs q).result,.slice A2 (aq fs q).C.length c2] 84,am gs [.slice As s.length cs] 116,ak (.slice As s.length cs) s,am gp [.slice Ap fs.length cp] 24,am gm [.slice a.Af m.F.length a.cf,.slice a.Ab m.B.length a.cb,.slice a.Ai m.I.length a.ci,.slice a.Ao m.out.length a.co,.int .i64 m.S,.int .i64 m.T] 43,am gr [z0,z1,z2,z3,z4,z5] 43,am go [.slice A (k+1) c,.slice Ab m.B.length cb,.slice Ai m.I.length ci,.slice Ao m.out.length co,.int .i64 m.S,.int .i64 m.T] 43,am gc [.int .i64 o.c,.int .i64 o.a] 86,am gf [fx0,fx1,.int .i64 fr,fx3] 84,am gn [.int .i64 (s.length:Int)] 3,ak (.slice A (k+1) c) (li.map Prod.fst++ [(⟨f,p0,.slice Al l.length cl,.slice As s.length cs⟩:aB)]),ak (.slice Al l.length cl) l,cM li,ak (.slice Ab m.B.length cb) m.B,ak (.slice Ai m.I.length ci) m.I,ak (.slice Ao m.out.length co) m.out]) 0 (aX _) ?_
 rintro i hi'
 have hi:i<=P:=hi'
 have hll:((s.drop (s.length - P)).take i++(dg (aq fs q).L).drop i).length=(dg (aq fs q).L).length:=by rw[ar,aA,aL,aL];omega
 refine av (fun hlt=>?_) (fun hlt=>?_)
 ·have hlt:i<P:=by have hlt:(i:Int)<(aq fs q).params:=hlt;omega
  have hvi:aH (s.getD (s.length - P+i) default).n:=R.si _ (cI (by omega))
  have hst:=I7 (s:=s) (L:=dg (aq fs q).L) (a:=s.length - P) (i:=i) (by omega) (by omega)
  refine aj ?_
  refine bh (t:=260) (v':= .int .i64 ((s.length - P+i:Nat):Int)) rfl (by congr 1;omega) ?_
  refine cS ((s.length - P+i)) rfl ((SF.own (xs:=s) rfl fc)) ?_
  refine iY rfl (SF.val (SF.own rfl fc) (show s.length - P+i<s.length by omega) default) ?_
  refine cS (i) rfl ((SF.own (A:=A3) (c:=c3) hll fc)) ?_
  refine oE (fS (α:=aC) (A:=A3) (c:=c3) (s.getD (s.length - P+i) default) default hst fc (by omega) hvi aI rfl rfl rfl rfl rfl rfl rfl rfl) (fun _ _=>aj ?_)
  refine cU (i+1) (by show i+1<=_;omega) (by show _ - _<_ - _;omega)
 obtain rfl:i=P:=by have hlt:¬(i:Int)<(aq fs q).params:=hlt;omega
 have htl:(s.take (s.length - i)).length=s.length - i:=by rw[aA];omega
 refine aj ?_
 refine bh (t:=270) (v':= .int .i64 ((s.take (s.length - i)).length:Int)) rfl (by congr 1;omega) ?_
 refine sE (ij (k:=(s.take (s.length - i)).length) ax aI (by omega) rfl rfl rfl) ?_
 refine ay ?_
 refine ay ?_
 refine ay ?_
 refine oE (lx (α:=aB) ⟨f,p0,.slice Al l.length cl,.slice As s.length cs⟩ ⟨f,p0,.slice Al l.length cl,.slice As (s.take (s.length - i)).length cs⟩ hlm fc ⟨⟨R.pi.1,R.pi.2.1⟩,rfl,rfl⟩ ft rfl rfl rfl rfl rfl rfl rfl rfl) (fun _ _=>?_)
 refine ay ?_
 refine ay ?_
 refine oE (lx (α:=aB) ⟨f,p0,.slice Al l.length cl,.slice As (s.take (s.length - i)).length cs⟩ ⟨f,p1,.slice Al l.length cl,.slice As (s.take (s.length - i)).length cs⟩ hlm fc ⟨⟨R.pi.1,R.pi.2.2⟩,rfl,rfl⟩ bj rfl rfl rfl rfl rfl rfl rfl rfl) (fun _ _=>aj ?_)
 intro g2 _
 refine oE (cH (α:=aB) (bytes:=64) ⟨o.a,0,.slice A3 (dg (aq fs q).L).length c3,.slice none 0 0⟩ [] rfl cD (aV lE) rfl (eD (R:=ak (.slice A (k+1) c) _) fc fc) (dm ⟨⟨R.oa,by show aH 0;decide⟩,rfl,rfl⟩) (by rw[ar,hlm];show k+1+1<=_;omega) (by rw[ar,hlm];show (k+1+1)*64<=_;omega) rfl rfl rfl) (fun⟨A5,c5⟩ _=>?_)
 try dsimp only
 refine ay ?_
 refine dr (cV _ fc Tryz.sizeOf40 rfl rfl rfl rfl rfl (by rfl) rfl (by rfl)) rfl rfl (fun _ _=>?_)
 refine bH<|cc<|bO<|dT (pJ (vs:= [_,_,_,_,_,_]) fc rP cX rfl rfl (by rfl) rfl) rfl rfl ?_
 refine dr (cV _ fc cX rfl rfl rfl rfl rfl (by rfl) rfl (by rfl)) rfl rfl (fun _ _=>?_)
 refine bH ?_
 have e2:∀a b:aB,(li.map Prod.fst++ [a]++ [b]).length=k+2:=fun a b=>by rw[ar,ar,hlm];rfl
 have e3:(s.drop (s.length - i)).take i=s.drop (s.length - i):=bA (by rw[aL];omega)
 refine ik<|eQ (KR {m with F:=li.map Prod.snd++ [⟨f,p1,l,s.take (s.length - i)⟩,⟨o.a,0,(s.drop (s.length - i)).take i++(dg (aq fs q).L).drop i,[]⟩]} ⟨A5,c5,Ab,cb,Ai,ci,Ao,co⟩ (by dsimp only[bN];rw[if_neg (by omega)];rw[if_neg (by omega)];rw[if_neg (by omega)];rw[if_neg (by omega)];rw[if_neg (by omega)];rw[if_neg (by omega)];rw[if_neg (by omega)];rw[if_neg (by omega)];rw[if_neg (by omega)];rw[if_neg (by omega)];rw[if_neg (by omega)];rw[if_pos hc,if_neg (by omega),hq,hP,bw,e3])) ⟨rfl,trivial⟩ (fun w h=>by rw[e2] at h;have h1:=yT (List.take_prefix (s.length - i) s) (h.msub (.s fc .r));have h2:=Cw.nilO aC h1;exact(Fa (gd:=gr) (A:=A5) (c:=c5) (k:=k) (li:=li) (h:=⟨f,p1,.slice Al l.length cl,.slice As (s.take (s.length - i)).length cs⟩) (x:=⟨f,p1,l,s.take (s.length - i)⟩) (h2:=⟨o.a,0,.slice A3 (dg (aq fs q).L).length c3,.slice none 0 0⟩) (x2:=⟨o.a,0,(s.drop (s.length - i)).take i++(dg (aq fs q).L).drop i,[]⟩) (b:= [.slice Ab m.B.length cb,.slice Ai m.I.length ci,.slice Ao m.out.length co,.int .i64 m.S,.int .i64 m.T]) (T:=43) (H:= [ak (.slice Ab m.B.length cb) m.B,ak (.slice Ai m.I.length ci) m.I,ak (.slice Ao m.out.length co) m.out]) R.hk R.hok ⟨rfl,rfl⟩ ⟨rfl,rfl⟩ (h2.msub ms)).msub ms)
theorem P0 (R:mh B w0 fs m a li k Ap cp f p0 p1 l s o fr) (hc:o.c=13) (hrz:rz.length=6) (KR:∀(y:az) (g:MA),bN fs m (li.map Prod.snd) ⟨f,p1,l,s⟩ o= .inr y->XW ⟨551,[]⟩ B w0 Q .ret [(4,.pointer (some ⟨gr,0,none⟩))] (am gr [.slice g.Af y.F.length g.cf,.slice g.Ab y.B.length g.cb,.slice g.Ai y.I.length g.ci,.slice g.Ao y.out.length g.co,.int .i64 y.S,.int .i64 y.T] 43::ak (.slice g.Af y.F.length g.cf) y.F::ak (.slice g.Ab y.B.length g.cb) y.B::ak (.slice g.Ai y.I.length g.ci) y.I::ak (.slice g.Ao y.out.length g.co) y.out:: [])):CW Tryz.prog ⟨551,[]⟩ B w0 (kU [true,true,true,true,true,true,true,true,true,true,true,false,true,false,true,true,true,true,true,true,true,true,true,true,true,true,true,true,true,true,true,true,true,true,true,true,true,true,true,false] (gt Tryz.f51)) Q [(4,.pointer (some ⟨gr,0,none⟩)),(5,.pointer (some ⟨go,0,none⟩)),(8,.pointer (some ⟨gf,0,none⟩)),(9,.pointer (some ⟨gs,0,none⟩)),(10,.pointer (some ⟨gn,0,none⟩))] [am gs [.slice As s.length cs] 116,ak (.slice As s.length cs) s,am gp [.slice Ap fs.length cp] 24,am gm [.slice a.Af m.F.length a.cf,.slice a.Ab m.B.length a.cb,.slice a.Ai m.I.length a.ci,.slice a.Ao m.out.length a.co,.int .i64 m.S,.int .i64 m.T] 43,am gr rz 43,am go [.slice A (k+1) c,.slice Ab m.B.length cb,.slice Ai m.I.length ci,.slice Ao m.out.length co,.int .i64 m.S,.int .i64 m.T] 43,am gc [.int .i64 o.c,.int .i64 o.a] 86,am gf [fx0,fx1,.int .i64 fr,fx3] 84,am gn [.int .i64 (s.length:Int)] 3,ak (.slice A (k+1) c) (li.map Prod.fst++ [(⟨f,p0,.slice Al l.length cl,.slice As s.length cs⟩:aB)]),ak (.slice Al l.length cl) l,cM li,ak (.slice Ab m.B.length cb) m.B,ak (.slice Ai m.I.length ci) m.I,ak (.slice Ao m.out.length co) m.out]:=by
 have hsl:=R.sl
 have hk6:=R.k6
 obtain⟨hf0,hf1,hfr,hfr0⟩:=R.fn
 obtain⟨_,hret⟩:=R.nd.ret hc
 have hret:(aq fs f.toNat).result≠0->1<=s.length:=hret
 obtain⟨z0,z1,z2,z3,z4,z5,rfl⟩:∃z0 z1 z2 z3 z4 z5,rz= [z0,z1,z2,z3,z4,z5]:=oK rz hrz
 have hlm:(li.map Prod.fst).length=k:=by rw[aQ];exact R.hk
 have hmf:=R.mf
 have hok:=R.hok
 have hkl:=R.hk
 have hst:=R.hst
 have hlk:∀h:aB,(li.map Prod.fst++ [h]).length=k+1:=fun h=>by rw[ar,hlm];rfl
 refine dY (fun w h=>gG h (xs:=li.map Prod.fst++ [(⟨f,p0,.slice Al l.length cl,.slice As s.length cs⟩:aB)]) fc) fun hcapf=>?_
 refine cc<|aj ?_
 refine bh (t:=294) (v':= .int .i64 (k:Int)) rfl (by congr 1;omega) ?_
 refine sE (ij (k:=k) cD dI (by omega) rfl rfl rfl)<|aj ?_
 refine dK (fun w h=>vS hlm (h.msub (.s fc .r))) ?_
 refine eo rfl (fun h0=>?_) (fun h0=>?_)
 ·have h0:k=0:=by have h0:(k:Int)=0:=h0;omega
  subst h0
  have hnil:li= []:=aY hkl
  subst hnil
  refine cc<|bO<|ay ?_
  refine dr (cV _ fc bj rfl rfl rfl rfl rfl (by rfl) rfl (by rfl)) rfl rfl (fun _ _=>?_)
  refine bH<|cc<|bO<|dT (pJ (vs:= [_,_,_,_,_,_]) fc rP cX rfl rfl (by rfl) rfl) rfl rfl ?_
  refine dr (cV _ fc cX rfl rfl rfl rfl rfl (by rfl) rfl (by rfl)) rfl rfl (fun _ _=>?_)
  refine bH<|ik (eL ?_)
  refine eQ (KR {m with F:= [],S:=2} ⟨A,c,Ab,cb,Ai,ci,Ao,co⟩ (by dsimp only[bN];rw[if_neg (by omega)];rw[if_neg (by omega)];rw[if_neg (by omega)];rw[if_neg (by omega)];rw[if_neg (by omega)];rw[if_neg (by omega)];rw[if_neg (by omega)];rw[if_neg (by omega)];rw[if_neg (by omega)];rw[if_neg (by omega)];rw[if_neg (by omega)];rw[if_neg (by omega)];rw[if_pos hc];unfold uY;rw[if_pos (show List.map Prod.snd ([]:List (aB×aG))= [] from rfl)])) ⟨rfl,trivial⟩ (fun w h=>(rJ (v:= .slice A 0 c) (l:=([]:List (aB×aG))) hok (h.msub (T:=ak (.slice A 0 c) (([]:List (aB×aG)).map Prod.fst)::cM []:: [am gr [.slice A 0 c,.slice Ab m.B.length cb,.slice Ai m.I.length ci,.slice Ao m.out.length co,.int .i64 2,.int .i64 m.T] 43,ak (.slice Ab m.B.length cb) m.B,ak (.slice Ai m.I.length ci) m.I,ak (.slice Ao m.out.length co) m.out]) ms)).msub ms)
 have h0:¬k=0:=by have h0:¬(k:Int)=0:=h0;omega
 obtain⟨k',rfl⟩:∃k',k=k'+1:=⟨k - 1,by omega⟩
 obtain⟨lp,q,rfl⟩:∃l q,li=l++ [q]:=by
  rcases fj li with h1 | ⟨l,z,h1⟩
  ·rw[h1] at hkl;simp at hkl
  exact⟨l,z,by rw[h1];simp⟩
 obtain⟨h,y⟩:=q
 have hkp:lp.length=k':=by rw[ar,aP] at hkl;omega
 have hok2:=hok.left
 have hok3:h.func=y.func/\h.pc=y.pc:=hok (h,y) (by simp)
 obtain⟨hf',hpc,hlv,hsv⟩:=h
 have hys:y.K.length<=1000:=hst (_,y) (gB _ (cB.2 rfl))
 have hlmp:(lp.map Prod.fst).length=k':=by rw[aQ];exact hkp
 refine dK (fun w hw=>wo (hw.msub (.s fc .r))) ?_
 refine dY (fun w hw=>hw.oform (v:=hsv) (xs:=y.K) .b) ?_
 rintro⟨As',cs',rfl⟩
 simp only[fd,et,iX] at *
 refine dY (fun w hw=>(rC hw fc:aB.wf ⟨hf',hpc,hlv,.slice As' y.K.length cs'⟩)) fun hwf=>?_
 have hlkp:∀h:aB,(lp.map Prod.fst++ [h]).length=k'+1:=fun h=>by rw[ar,hlmp];rfl
 have e3:∀z:aG,(lp.map Prod.snd++ [z]).length=k'+1:=fun z=>by rw[ar,aQ,hkp];rfl
 have e4:lp.map Prod.snd++ [y]≠[]:=by simp
 refine av (fun hr=>?_) (fun hr=>?_)
 ·have hr:0<fr:=hr
  have hr2:¬(aq fs f.toNat).result=0:=by omega
  have h1:1<=s.length:=hret hr2
  have hv:s.getD (s.length - 1) default=aF s:=eG.symm
  have hvi:aH (aF s).n:=by rw[eG];exact R.si _ (cI (by omega))
  refine aj ?_
  refine bh (t:=311) (v':= .int .i64 (k':Int)) rfl (by congr 1;omega) ?_
  refine cS (k') rfl ((SF.own (hlkp ⟨hf',hpc,hlv,.slice As' y.K.length cs'⟩) fc))<|aj ?_
  refine fx [0,3,6,9,12,15,18,21,24,27,32,35,36,39,44] [14] rfl [ak (.slice A (k'+1) c) (lp.map Prod.fst++ [(⟨hf',hpc,hlv,.slice As' y.K.length cs'⟩:aB)]),am gs [.slice As s.length cs] 116,am gn [.int .i64 (s.length:Int)] 3,ak (.slice As s.length cs) s]<|aj ?_
  refine tE rfl (bQ (fw (j:=3) hlmp fc rfl) rfl rfl dR)<|aj ?_
  refine cC (t:=320) (v':= .int .i64 ((s.length - 1:Nat):Int)) rfl (by congr 1;omega) ?_
  refine tE rfl (bg (k:=(s.length - 1)) ax aI (SF.own (xs:=s) (A:=As) (c:=cs) rfl fc) (by omega) rfl rfl rfl) ?_
  refine tE rfl (eF (SF.val (SF.own rfl fc) (show s.length - 1<s.length by omega) default) rfl rfl ie aI)<|aj ?_
  intro g1 _
  rw[hv]
  refine pE rfl (cH (α:=aC) (bytes:=16) (aF s) [] rfl ax (aV du) rfl (eD (R:=ak (.slice As' y.K.length cs') y.K) fc fc) (dm hvi) (by omega) (by omega) rfl rfl rfl) (fun⟨A3,c3⟩ _=>?_)
  try dsimp only
  refine ay ?_
  refine ay ?_
  refine pE rfl (lx (α:=aB) ⟨hf',hpc,hlv,.slice As' y.K.length cs'⟩ ⟨hf',hpc,hlv,.slice A3 (y.K++ [aF s]).length c3⟩ hlmp fc ⟨hwf.1,hwf.2.1,rfl⟩ ft rfl rfl rfl rfl rfl rfl rfl rfl) (fun _ _=>?_)
  refine xi<|cc<|bO<|dT (pJ (vs:= [_,_,_,_,_,_]) fc rP cX rfl rfl (by rfl) rfl) rfl rfl ?_
  refine dr (cV _ fc cX rfl rfl rfl rfl rfl (by rfl) rfl (by rfl)) rfl rfl (fun _ _=>?_)
  refine bH<|ik<|eQ (KR {m with F:=lp.map Prod.snd++ [{y with K:=y.K++ [aF s]}]} ⟨A,c,Ab,cb,Ai,ci,Ao,co⟩ (by dsimp only[bN];rw[if_neg (by omega)];rw[if_neg (by omega)];rw[if_neg (by omega)];rw[if_neg (by omega)];rw[if_neg (by omega)];rw[if_neg (by omega)];rw[if_neg (by omega)];rw[if_neg (by omega)];rw[if_neg (by omega)];rw[if_neg (by omega)];rw[if_neg (by omega)];rw[if_neg (by omega)];rw[if_pos hc,wH,tX,if_neg hr2,if_neg e4])) ⟨rfl,trivial⟩ (fun w h=>by dsimp only;rw[e3];exact(ne (li:=lp) (h:=⟨hf',hpc,hlv,.slice A3 (y.K++ [aF s]).length c3⟩) (x:= {y with K:=y.K++ [aF s]}) hok2 hok3 (h.msub (T:=ak (.slice A (k'+1) c) (lp.map Prod.fst++ [(⟨hf',hpc,hlv,.slice A3 (y.K++ [aF s]).length c3⟩:aB)])::ak hlv y.L::ak (.slice A3 (y.K++ [aF s]).length c3) (y.K++ [aF s])::cM lp:: [am gr [.slice A (k'+1) c,.slice Ab m.B.length cb,.slice Ai m.I.length ci,.slice Ao m.out.length co,.int .i64 m.S,.int .i64 m.T] 43,ak (.slice Ab m.B.length cb) m.B,ak (.slice Ai m.I.length ci) m.I,ak (.slice Ao m.out.length co) m.out]) ms)).msub ms)
 have hr:¬0<fr:=hr
 have hr2:(aq fs f.toNat).result=0:=by omega
 refine gI (gF ?_)
 refine cc<|bO<|dT (pJ (vs:= [_,_,_,_,_,_]) fc rP cX rfl rfl (by rfl) rfl) rfl rfl ?_
 refine dr (cV _ fc cX rfl rfl rfl rfl rfl (by rfl) rfl (by rfl)) rfl rfl (fun _ _=>?_)
 refine bH<|ik<|eQ (KR {m with F:=lp.map Prod.snd++ [y]} ⟨A,c,Ab,cb,Ai,ci,Ao,co⟩ (by dsimp only[bN];rw[if_neg (by omega)];rw[if_neg (by omega)];rw[if_neg (by omega)];rw[if_neg (by omega)];rw[if_neg (by omega)];rw[if_neg (by omega)];rw[if_neg (by omega)];rw[if_neg (by omega)];rw[if_neg (by omega)];rw[if_neg (by omega)];rw[if_neg (by omega)];rw[if_neg (by omega)];rw[if_pos hc,wH,tX,if_pos hr2,if_neg e4,eu])) ⟨rfl,trivial⟩ (fun w h=>by dsimp only;rw[e3];exact(ne (li:=lp) (h:=⟨hf',hpc,hlv,.slice As' y.K.length cs'⟩) (x:=y) hok2 hok3 (h.msub (T:=ak (.slice A (k'+1) c) (lp.map Prod.fst++ [(⟨hf',hpc,hlv,.slice As' y.K.length cs'⟩:aB)])::ak hlv y.L::ak (.slice As' y.K.length cs') y.K::cM lp:: [am gr [.slice A (k'+1) c,.slice Ab m.B.length cb,.slice Ai m.I.length ci,.slice Ao m.out.length co,.int .i64 m.S,.int .i64 m.T] 43,ak (.slice Ab m.B.length cb) m.B,ak (.slice Ai m.I.length ci) m.I,ak (.slice Ao m.out.length co) m.out]) ms)).msub ms)
end
end
