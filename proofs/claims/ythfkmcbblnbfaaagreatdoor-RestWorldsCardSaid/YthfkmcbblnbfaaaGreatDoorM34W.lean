/- Lemmas of one proof. -/
import Derived.Test.YthfkmcbblnbfaaaGreatDoorM90W
import Derived.Test.YthfkmcbblnbfaaaGreatDoorM0W
import Derived.Test.YthfkmcbblnbfaaaGreatDoorM33W

namespace Go.Proofs.YthfkmcbblnbfaaaGreatDoor
set_option maxRecDepth 100000
set_option maxHeartbeats 16000000
open Go.RowKit
section
theorem GW {l:List bG} {pc:Nat} (c:∀q∈dX (bH l pc) pc,0<=q/\q<=l.length):dX (bH l pc) pc=xD l pc:=by
 refine qF (xe _ _) ((Gj _).filter _) fun b=>?_;unfold xD;rw[th,qZ,M3];constructor
 ·intro a;have:=c b ((th _ _ _).2 a);exact⟨ω,a⟩
 exact fun a=>a.2
theorem wB (A:Option Addr) (c:Nat) (fs:List aw) (k:Nat) (w:World) (bo:Sl w (.slice A fs.length c) fs) (cg:k<fs.length) (I:nR fs (au fs k)) (O:sB fs (au fs k)) (V:0<(au fs k).C.length) :
  Calls Tryz.prog 139 #[.agg #[.slice A fs.length c],.int .i64 (k:Int)] w fun e w'=> ∃g:(Option Addr×Nat)×List iT×List (Value×List Int),oH g.2.1 g.2.2 (cM fs (au fs k)).1/\e= .returned (.tuple #[.slice g.1.1 g.2.1.length g.1.2,.bool (cM fs (au fs k)).2])/\
   Cw w.heap.size w [an (.slice g.1.1 g.2.1.length g.1.2) g.2.1,gO g.2.2] w':=by
 obtain⟨co,ct,J,K,ch,bi,c9,b2⟩:=bo.fn cg;have cl:=(O.res k cg).1;have d2:∀o,o<fs.length->0<=(au fs o).result:=fun o y=>(O.res o y).1;generalize au fs k=a at ch bi c9 b2 I O V cl⊢;have cj:=I.n40;have cv:=Sc (fs:=fs) V;have c1:jU a.C.length (List.replicate a.C.length mo) [] (xX a.C.length).at_:=⟨by simp,by simp[xX],fun b _=>by
  show lR [] ((List.replicate a.C.length mo).getD b mo).v ((List.replicate a.C.length ([]:List Int)).getD b []);rw[ma,ma];exact .nil_⟩
 refine enter Tryz.func139 rfl Tryz.ntmps139 rfl<|aj ?_;refine fun L _=>aj ?_;refine cP k rfl (.ro bo)<|aj ?_;refine ef rfl (fun w p=>b2 _ w p 3 _ rfl)<|aj ?_;refine oE (oR (α:=jA) mo eI og rfl (fun w=>⟨⟨rfl,rfl⟩,fun _ d=>d⟩) rfl (by omega) rfl rfl rfl) (fun v _=>aj ?_);refine oE (oR (α:=Bool) false oY zq rfl (fun w=>⟨rfl,fun _ d=>d⟩) rfl (by omega) rfl rfl rfl) (fun x _=>aj ?_);refine sE (jG (k:=0) oY ur rfl V rfl rfl rfl) ?_;refine oE (fZ (α:=Bool) true false rfl fc V trivial ur rfl rfl rfl rfl rfl rfl rfl rfl) (fun _ _=>aj ?_);refine dm (fun w d=>mh d) ?_;refine jJ (fun g:eE×List jA×List (Value×List Int)=>(cM fs a=(mM g.1 a.C.length,true)/\gH a.C.length g.1)/\jU a.C.length g.2.1 g.2.2 g.1.at_) (fun g=> [(6,.slice J a.C.length K),(7,.slice (some ⟨v,0,none⟩) a.C.length a.C.length),(8,.slice (some ⟨x,0,none⟩) a.C.length a.C.length)]) (fun g=> [ak L [.slice A fs.length c] 24,an (.slice (some ⟨v,0,none⟩) a.C.length a.C.length) g.2.1,an (.slice (some ⟨x,0,none⟩) a.C.length a.C.length) g.1.met,gO g.2.2]) ?_ ?_
 ·refine cZ (fun g:Bool×eE×List jA×List (Value×List Int)=>((gH a.C.length g.2.1/\pD fs a g.2.1)/\g.2.1.todo= []/\(g.1=false->∀b:Nat,g.2.1.met.getD b false=true->Dn fs a g.2.1 b))/\jU a.C.length g.2.2.1 g.2.2.2 g.2.1.at_) (fun g=>2*tX a.C.length g.2.1+g.1.toNat) (fun g=> [(1,.int .i64 (k:Int)),(2,.pointer (some ⟨L,0,none⟩)),(6,.slice J a.C.length K),(7,.slice (some ⟨v,0,none⟩) a.C.length a.C.length),(8,.slice (some ⟨x,0,none⟩) a.C.length a.C.length),(9,.bool g.1)]) (fun g=> [ak L [.slice A fs.length c] 24,an (.slice (some ⟨v,0,none⟩) a.C.length a.C.length) g.2.2.1,an (.slice (some ⟨x,0,none⟩) a.C.length a.C.length) g.2.1.met,gO g.2.2.2]) (true,xX a.C.length,List.replicate a.C.length mo,[]) (⟨⟨cv,rfl,fun d=>(by cases d)⟩,c1⟩) ?_ (hh:=(fun _ d=>d.msub ms));rintro⟨b6,B,q,m⟩ y
  try dsimp only
  obtain⟨⟨⟨al,ca⟩,a4,cw⟩,am⟩:((gH a.C.length B/\pD fs a B)/\B.todo= []/\(b6=false->∀b:Nat,B.met.getD b false=true->Dn fs a B b))/\jU a.C.length q m B.at_:=y;refine aj ?_;refine cc rfl (fun U=>?_) (fun U=>?_)
  ·have U:b6=true:=U;subst U;refine aj ?_;refine cZ (fun g:Nat×Bool×eE×List jA×List (Value×List Int)=>((g.1<=a.C.length/\g.2.1=decide (0<g.2.2.1.todo.length))/\Sw fs a B g.1 g.2.2.1)/\jU a.C.length g.2.2.2.1 g.2.2.2.2 g.2.2.1.at_) (fun g=>a.C.length - g.1) (fun g=> [(1,.int .i64 (k:Int)),(2,.pointer (some ⟨L,0,none⟩)),(6,.slice J a.C.length K),(7,.slice (some ⟨v,0,none⟩) a.C.length a.C.length),(8,.slice (some ⟨x,0,none⟩) a.C.length a.C.length),(9,.bool g.2.1),(10,.int .i64 (g.1:Int))]) (fun g=> [ak L [.slice A fs.length c] 24,an (.slice (some ⟨v,0,none⟩) a.C.length a.C.length) g.2.2.2.1,an (.slice (some ⟨x,0,none⟩) a.C.length a.C.length) g.2.2.1.met,gO g.2.2.2.2]) (0,false,B,q,m) (⟨⟨⟨aS _,by rw[a4];rfl⟩,.start al ca⟩,am⟩) ?_ (hh:=(fun _ d=>d.msub ms));rintro⟨b,G,i,q,m⟩ y
   try dsimp only
   obtain⟨⟨⟨ea,bg⟩,H⟩,Q⟩:((b<=a.C.length/\G=decide (0<i.todo.length))/\Sw fs a B b i)/\jU a.C.length q m i.at_:=y;have M:=H.ok;have:=H.todo al a4 cj;refine ax (fun b4=>?_) (fun b4=>?_)
   ·have s:b<a.C.length:=by omega
    refine aj ?_;refine cP _ rfl (SF.own M.ml fc) ?_;refine ef rfl (SF.bool (SF.own M.ml fc) (by omega))<|aj ?_;refine cc rfl (fun u=>?_) (fun u=>?_)
    ·have u:¬i.met.getD b false=true:=by simpa using u
     refine aj ?_;refine cG (b+1,G,i,q,m) (⟨⟨⟨s,bg⟩,H.skip u⟩,Q⟩) (by show _ - _<_ - _;omega) (hh:=(fun _ d=>d.msub ms))
    have u:i.met.getD b false=true:=by simpa using u
    have S:=Q.el b s;refine ek (fun w d=>S.form d fc) ?_;rintro⟨X,Z,bc⟩;rw[bc] at S;have:=M.st b;refine aj ?_;refine bq [0,3,6,9,12,15,18,21,24,27,30,33,36,39,44,45,48,51,54,57] [] rfl<|aj ?_;refine tE rfl (aX (k:=k) ff fw (.ro bo) (by omega) rfl rfl rfl) ?_;refine tE rfl (eC (b2 _) rfl rfl zv fw)<|aj ?_;refine tE rfl (aX eH gN (.ro bi) (by omega) rfl rfl rfl) ?_;refine tE rfl (eC (cs:= [_,_]) (SF.op (.ro bi) (by omega)) rfl rfl zu gN)<|aj ?_;refine tE rfl (aX eI gv (SF.own Q.hl fc) (by omega) rfl rfl rfl) ?_;refine tE rfl (bY (v:= .slice X (i.at_.getD b []).length Z) (by rw[<-bc];exact SF.hdr (SF.own Q.hl fc) s) rfl rfl gX) ?_;refine jc rfl rfl Tryz.call195 (fun w p=>Nt fs a (bH a.C b) (i.at_.getD b []) A co J X c ct K Z w (p.ro bo) (p.ro ch) (S.sl p fc) (I.op b s) d2 cl (by omega)) (fun⟨⟨C,D⟩,j⟩ c3=>?_);refine aP ?_;refine cc rfl (fun bb=>?_) (fun bb=>?_)
    ·have W:ij fs a (bH a.C b) (i.at_.getD b [])=none:=by
      cases e:ij fs a (bH a.C b) (i.at_.getD b []) with
      | none=>rfl
      | some r=>rw[e] at bb;cases bb
     rw[CZ I O V (H.bad u W)];refine aj ?_;intro w p;exact⟨((none,0),[],[]),.nil_,rfl,Cw.nilO iT (mh (p.msub (T:= []) ms))⟩
    obtain⟨r,W⟩:∃r,ij fs a (bH a.C b) (i.at_.getD b [])=some r:=by
     cases e:ij fs a (bH a.C b) (i.at_.getD b []) with
     | none=>rw[e] at bb;cases bb
     | some r=>exact⟨r,rfl⟩
    have c6:j=r:=c3 r W;subst c6;have c4:=pR W;have c5:=By O (I.op b s) (H.inv.ty b u) W;refine dm (fun w d=>uP (d.msub (T:=an (.slice C j.length D) j::gO m:: [ak L [.slice A fs.length c] 24,an (.slice (some ⟨v,0,none⟩) a.C.length a.C.length) q,an (.slice (some ⟨x,0,none⟩) a.C.length a.C.length) i.met]) ms)) ?_;have cf:lR ((.slice C j.length D,j)::m) (.slice C j.length D) j:= .new;have cb:=Q.cons (.slice C j.length D,j);generalize (.slice C j.length D,j)::m=cp at cf cb⊢;obtain⟨n,c0⟩:∃n,dX (bH a.C b) b=n:=⟨_,rfl⟩
    have bs:=I.to_ b s;have dn:=pA (bH a.C b) b;have b3:=fun(bw:List Int) (b9:∀h∈bw,h∈dX (bH a.C b) b) (b1:bw.length<=4)=>H.comes I O al a4 s u W (L:=bw) b9 b1;have ck:=GW (l:=a.C) (pc:=b) (fun h bm=>bs h bm);have cm:=fun f=>H.step (s':=f) I O al a4 s u W;rw[c0] at bs dn b3 ck cm;have ds:∀a0,Sl a0 (.slice J a.C.length K) a.C->Calls Tryz.prog 196 #[.slice J a.C.length K,.int .i64 (b:Int)] a0 fun e w'=> ∃g:Option Addr×Nat,True/\e= .returned (.slice g.1 n.length g.2)/\Cw a0.heap.size a0 [an (.slice g.1 n.length g.2) n] w':=fun a0 d=>by
     rw[ck];exact PP J K a.C b a0 d s cj
    refine aj ?_;refine eu rfl Tryz.call196 (fun w p=>ds w (p.ro bi)) (fun⟨bv,b0⟩ _=>?_);refine aP ?_;refine cZ (fun g:Nat×Bool×eE×List jA×List (Value×List Int)=>(((g.1<=n.length/\g.2.1=decide (0<g.2.2.1.todo.length))/\gH a.C.length g.2.2.1/\g.2.2.1.todo.length<=i.todo.length+g.1)/\ec a.C.length i (n.take g.1) j=some g.2.2.1/\lR g.2.2.2.2 (.slice C j.length D) j)/\jU a.C.length g.2.2.2.1 g.2.2.2.2 g.2.2.1.at_) (fun g=>n.length - g.1) (fun g=> [(1,.int .i64 (k:Int)),(2,.pointer (some ⟨L,0,none⟩)),(6,.slice J a.C.length K),(7,.slice (some ⟨v,0,none⟩) a.C.length a.C.length),(8,.slice (some ⟨x,0,none⟩) a.C.length a.C.length),(9,.bool g.2.1),(10,.int .i64 (b:Int)),(11,.slice C j.length D),(13,.slice bv n.length b0),(14,.int .i64 (g.1:Int))]) (fun g=> [ak L [.slice A fs.length c] 24,an (.slice (some ⟨v,0,none⟩) a.C.length a.C.length) g.2.2.2.1,an (.slice (some ⟨x,0,none⟩) a.C.length a.C.length) g.2.2.1.met,gO g.2.2.2.2,an (.slice bv n.length b0) n]) (0,G,i,q,cp) (⟨⟨⟨⟨aS _,bg⟩,M,aH _⟩,rfl,cf⟩,cb⟩) ?_ (hh:=(fun _ d=>d.msub ms));rintro⟨o,G,f,q,m⟩ y
    try dsimp only
    obtain⟨⟨⟨⟨eg,cd⟩,a3,ej⟩,bk,a7⟩,N⟩:(((o<=n.length/\G=decide (0<f.todo.length))/\gH a.C.length f/\f.todo.length<=i.todo.length+o)/\ec a.C.length i (n.take o) j=some f/\lR m (.slice C j.length D) j)/\jU a.C.length q m f.at_:=y;refine ax (fun T=>?_) (fun T=>?_)
    ·have T:o<n.length:=by omega
     have ci:n.getD o 0∈n:=by rw[ap,aq T];exact cV _
     obtain⟨h,bm⟩:∃h:Nat,n.getD o 0=(h:Int):=⟨(n.getD o 0).toNat,by have:=bs _ ci;omega⟩
     have d1:h<=a.C.length:=by have:=bs _ ci;omega
     have P:=tw T bk;rw[bm,bu] at P;have a6:=oG a3 d1 c4 (by omega);refine aj ?_;refine cP _ rfl (SF.own rfl fc) ?_;refine nj rfl (SF.own rfl fc)<|aj ?_;refine cT (t:=15) (v':= .int .i64 (h:Int)) rfl (by rw[bm]) ?_;have ce:(dK a.C.length f h j).1=false->cM fs a=([],false):=fun d=>CZ I O V ((b3 n (fun h d=>d) (by omega)).2 (tx (k:=o+1) (by rw[P,d];rfl)));refine eK rfl (fun d0=>?_) (fun d0=>?_)
     ·rw[ce (by unfold dK;rw[if_pos (by omega)])];refine aj ?_;intro w p;exact⟨((none,0),[],[]),.nil_,rfl,Cw.nilO iT (mh (p.msub (T:= []) ms))⟩
     have E:h<a.C.length:=by omega
     refine aj ?_;refine cP _ rfl (SF.own a3.ml fc) ?_;refine ef rfl (SF.bool (SF.own a3.ml fc) (by omega))<|aj ?_;refine cc rfl (fun z=>?_) (fun z=>?_)
     ·have z:¬f.met.getD h false=true:=by simpa using z
      have a5:dK a.C.length f h j=(true,⟨f.at_.set h j,f.met.set h true,f.todo++ [(h:Int)]⟩):=by unfold dK;rw[if_neg (by omega),if_neg z]
      rw[a5] at a6 P;refine aj ?_;refine sE (jG eI gv rfl E rfl rfl rfl) ?_;refine oE (fZ (α:=jA) ⟨.slice C j.length D⟩ mo rfl fc E rfl gv rfl rfl rfl rfl rfl rfl rfl rfl) (fun _ _=>?_);refine sE (jG oY ur rfl E rfl rfl rfl) ?_;refine oE (fZ (α:=Bool) true false rfl fc E trivial ur rfl rfl rfl rfl rfl rfl rfl rfl) (fun _ _=>aj ?_);refine cG (o+1,true,⟨f.at_.set h j,f.met.set h true,f.todo++ [(h:Int)]⟩,q.set h ⟨.slice C j.length D⟩,m) (⟨⟨⟨⟨T,by simp⟩,a6.1,by show (f.todo++ [(h:Int)]).length<=i.todo.length+(o+1);rw[ar,aV];omega⟩,P,a7⟩,N.set E a7⟩) (by show _ - _<_ - _;omega) (hh:=(fun _ d=>d.msub ms))
     have z:f.met.getD h false=true:=by simpa using z
     have cx:=((b3 (n.take o) (fun h d=>iG d) (by rw[aB];omega)).1 f bk).1;have bl:=N.el h E;have:=a3.st h;refine ek (fun w d=>bl.form d fc) ?_;rintro⟨Y,ad,b5⟩;rw[b5] at bl;refine aj ?_;refine cP _ rfl (SF.own N.hl fc) ?_;refine sE (bY (v:= .slice Y (f.at_.getD h []).length ad) (by rw[<-b5];exact SF.hdr (SF.own N.hl fc) E) rfl rfl gX)<|aj ?_;refine oE (fl rfl rfl rfl Tryz.call197 (fun w p=>Gm Y C ad D (f.at_.getD h []) j w (bl.sl p fc) (a7.sl p fc) (cx.ty h z) c5 (by omega))) (fun⟨a1,a2⟩ _=>?_);refine aP ?_;refine cc rfl (fun a9=>?_) (fun a9=>?_)
     ·have a8:cy (f.at_.getD h []) j=none:=by
       cases e:cy (f.at_.getD h []) j with
       | none=>rfl
       | some r=>rw[e] at a9;cases a9
      rw[ce (by unfold dK;rw[if_neg (by omega),if_pos z,a8])];refine aj ?_;intro w p;exact⟨((none,0),[],[]),.nil_,rfl,Cw.nilO iT (mh (p.msub (T:= []) ms))⟩
     obtain⟨F,a8⟩:∃r,cy (f.at_.getD h []) j=some r:=by
      cases e:cy (f.at_.getD h []) j with
      | none=>rw[e] at a9;cases a9
      | some r=>exact⟨r,rfl⟩
     rw[a8,sF];refine aj ?_;refine cP _ rfl (SF.own N.hl fc) ?_;refine sE (bY (v:= .slice Y (f.at_.getD h []).length ad) (by rw[<-b5];exact SF.hdr (SF.own N.hl fc) E) rfl rfl gX) ?_;refine cO rfl rl (fun w p=>lU a1 Y a2 ad F (f.at_.getD h []) w (SF.at_ (SF.own rfl fc) p) (bl.sl p fc))<|aj ?_;refine cc rfl (fun R=>?_) (fun R=>?_)
     ·have R:¬F=f.at_.getD h []:=by simpa using R
      have d3:f.met.set h true=f.met:=by
       refine List.ext_getElem (by simp) fun em b9 b1=>?_;rw[List.getElem_set]
       split
       ·rename_i e;subst e;rw[ap,aq b1] at z;exact z.symm
       rfl
      have a5:dK a.C.length f h j=(true,⟨f.at_.set h F,f.met,f.todo++ [(h:Int)]⟩):=by
       unfold dK;rw[if_neg (by omega),if_pos z,a8];simp only[];rw[if_neg R,d3]
      rw[a5] at a6 P;refine dm (fun w d=>uP (d.msub (T:=an (.slice a1 F.length a2) F::gO m:: [ak L [.slice A fs.length c] 24,an (.slice (some ⟨v,0,none⟩) a.C.length a.C.length) q,an (.slice (some ⟨x,0,none⟩) a.C.length a.C.length) f.met,an (.slice bv n.length b0) n]) ms))<|aj ?_;refine sE (jG eI gv rfl E rfl rfl rfl) ?_;refine oE (fZ (α:=jA) ⟨.slice a1 F.length a2⟩ mo rfl fc E rfl gv rfl rfl rfl rfl rfl rfl rfl rfl) (fun _ _=>aj ?_);refine cG (o+1,true,⟨f.at_.set h F,f.met,f.todo++ [(h:Int)]⟩,q.set h ⟨.slice a1 F.length a2⟩,(.slice a1 F.length a2,F)::m) (⟨⟨⟨⟨T,by simp⟩,a6.1,by show (f.todo++ [(h:Int)]).length<=i.todo.length+(o+1);rw[ar,aV];omega⟩,P,a7.cons⟩,(N.cons _).set E .new⟩) (by show _ - _<_ - _;omega) (hh:=(fun _ d=>d.msub ms))
     have R:F=f.at_.getD h []:=by simpa using R
     have a5:dK a.C.length f h j=(true,f):=by
      unfold dK;rw[if_neg (by omega),if_pos z,a8];simp only[];rw[if_pos R]
     rw[a5] at a6 P;refine aj ?_;refine cG (o+1,G,f,q,m) (⟨⟨⟨⟨T,cd⟩,a3,by show f.todo.length<=i.todo.length+(o+1);omega⟩,P,a7⟩,N⟩) (by show _ - _<_ - _;omega) (hh:=(fun _ d=>d.msub ms))
    obtain rfl:o=n.length:=by omega
    rw[aR] at bk;have c2:=cm f bk;refine aj ?_;refine cG (b+1,G,f,q,m) (⟨⟨⟨s,cd⟩,c2⟩,N⟩) (by show _ - _<_ - _;omega) (hh:=(fun _ d=>d.msub ms))
   obtain rfl:b=a.C.length:=by omega
   refine aj ?_
   by_cases ba:i.todo= []
   ·obtain⟨rfl,c8⟩:=H.dn ba;refine DM (G,i,q,m) (⟨⟨⟨M,H.inv⟩,ba,fun _ o y=>c8 o (Ah M y) y⟩,Q⟩) ((by rw[bg,ba];exact yz _)) (hh:=(fun _ d=>d.msub ms))
   obtain⟨cq,cr,d4⟩:=H.again a4 ba;refine DM (G,⟨i.at_,i.met,[]⟩,q,m) (⟨⟨⟨cq,cr⟩,rfl,fun d=>absurd (sC.2 ba) (by rw[bg] at d;simpa using d)⟩,Q⟩) ((by cases G;(· show 2*tX a.C.length ⟨i.at_,i.met,[]⟩+0<2*tX a.C.length B+1;omega);(· show 2*tX a.C.length ⟨i.at_,i.met,[]⟩+1<2*tX a.C.length B+1;omega))) (hh:=(fun _ d=>d.msub ms))
  have U:b6=false:=by simpa using U
  have c7:=L0 I O V al ca (cw U);refine aj ?_;refine bX (B,q,m) (⟨⟨c7,al⟩,am⟩) (hh:=(fun _ d=>d.msub ms))
 rintro⟨i,q,m⟩ y;obtain⟨⟨hent,M⟩,am⟩:(cM fs a=(mM i a.C.length,true)/\gH a.C.length i)/\jU a.C.length q m i.at_:=y;rw[hent]
 try dsimp only
 refine dm (fun w d=>Cw.nilO iT d)<|aj ?_;refine cZ (fun g:Nat×List iT×Option Addr×Nat=>g.1<=a.C.length/\oH g.2.1 m (mM i g.1)) (fun g=>a.C.length - g.1) (fun g=> [(6,.slice J a.C.length K),(7,.slice (some ⟨v,0,none⟩) a.C.length a.C.length),(8,.slice (some ⟨x,0,none⟩) a.C.length a.C.length),(18,.slice g.2.2.1 g.2.1.length g.2.2.2),(19,.int .i64 (g.1:Int))]) (fun g=> [an (.slice g.2.2.1 g.2.1.length g.2.2.2) g.2.1,an (.slice (some ⟨v,0,none⟩) a.C.length a.C.length) q,an (.slice (some ⟨x,0,none⟩) a.C.length a.C.length) i.met,gO m]) (0,[],none,0) (⟨aS _,.nil_⟩) ?_;rintro⟨b,bf,b7,b8⟩ dj
 try dsimp only
 obtain⟨eb,bn⟩:b<=a.C.length/\oH bf m (mM i b):=dj;have:=bn.len;have:=Fm i b;refine ax (fun b4=>?_) (fun b4=>?_)
 ·have s:b<a.C.length:=by omega
  have bp:=wQ i b;refine aj ?_;refine cP _ rfl (SF.own M.ml fc) ?_;refine ef rfl (SF.bool (SF.own M.ml fc) (by omega))<|aj ?_;refine cc rfl (fun u=>?_) (fun u=>?_)
  ·rw[if_pos u] at bp;have S:=am.el b s;refine aj ?_;refine cP _ rfl (SF.own am.hl fc) ?_;refine rL (fun w d=>S.form d fc) ?_;rintro⟨X,Z,bc⟩;rw[bc] at S;refine sE (bY (v:= .slice X (i.at_.getD b []).length Z) (by rw[<-bc];exact SF.hdr (SF.own am.hl fc) s) rfl rfl gX)<|aj ?_;intro d5 _;refine oE (cz (α:=iT) (bytes:=32) ⟨b,.slice X (i.at_.getD b []).length Z⟩ [] rfl Wu (aU Bl) rfl (eG fc fc) (dt ⟨⟨by show (-9223372036854775808:Int)<=(b:Int);omega,by show (b:Int)<=9223372036854775807;omega⟩,rfl⟩) (by omega) (by omega) rfl rfl rfl) (fun⟨Y,ad⟩ _=>?_);refine aP ?_;refine cG (b+1,bf++ [⟨b,.slice X (i.at_.getD b []).length Z⟩],Y,ad) (⟨s,by rw[bp];exact bn.snoc rfl S⟩) (by show _ - _<_ - _;omega)
  rw[if_neg (by rw[u];decide)] at bp;refine aj ?_;refine cG (b+1,bf,b7,b8) (⟨s,by rw[bp];exact bn⟩) (by show _ - _<_ - _;omega)
 obtain rfl:b=a.C.length:=by omega
 refine aj ?_;intro w p;exact⟨((b7,b8),bf,m),bn,rfl,p.msub ms⟩
end
section
def px (fs:List aw) (i:Nat):Int:=if dp fs≠0 then dp fs else if (fs.take i).all (fun f=>(cM fs f).2)=true then 0 else 4
theorem Oh {fs:List aw} {i:Nat} (h:px fs i≠0):px fs i=dZ fs:=by
 unfold px at h⊢;unfold dZ
 by_cases a:dp fs≠0
 ·rw[if_pos a,if_pos a]
 rw[if_neg a] at h⊢;rw[if_neg a]
 by_cases b:(fs.take i).all (fun d=>(cM fs d).2)=true
 ·rw[if_pos b] at h;exact absurd rfl h
 rw[if_neg b,if_neg];intro c
 apply b
 rw[pH] at c⊢;exact fun f e=>c f (iG e)
theorem Og {fs:List aw} :px fs fs.length=dZ fs:=by unfold px dZ;rw[aR]
theorem LV {fs:List aw} {i:Nat} (h:px fs i=0):dp fs=0/\(fs.take i).all (fun f=>(cM fs f).2)=true:=by
 unfold px at h
 by_cases a:dp fs≠0
 ·rw[if_pos a] at h;exact absurd h a
 rw[if_neg a] at h;refine⟨ψ a,?_⟩
 split at h
 ·assumption
 cases h
theorem BJ (A:Option Addr) (c:Nat) (fs:List aw) (w:World) (m:Sl w (ac A fs.length c) fs) :
  Calls Tryz.prog 78 #[.agg #[ac A fs.length c]] w fun e w'=>e= .returned (ai (dZ fs))/\Below w.heap.size w w':=by
 have:=bx m;refine enter Tryz.func78 rfl Tryz.ntmps78 rfl<|aj ?_;refine fun n _=>aj ?_;refine cO rfl Tryz.call138 (fun w h=>Gr A c fs w (h.ro m))<|aj ?_;refine jJ (fun e:Int=>e=dZ fs) (fun e=> [(3,ai e)]) (fun _=> []) ?_ ?_
 ·refine cZ (fun b:Nat×Int=>b.1<=fs.length/\b.2=px fs b.1) (fun b=>fs.length - b.1) (fun b=> [(1,af n),(3,ai b.2),(4,ai (b.1:Int))]) (fun _=> [ak n [ac A fs.length c] 24]) (0,dp fs) (⟨aS _,by show dp fs=px fs 0;unfold px;rw[List.take_zero];by_cases i:dp fs≠0;(· rw[if_pos i]);(· rw[if_neg i,List.all_nil,if_pos rfl];simpa using i)⟩) ?_;rintro⟨a,e⟩ s
  try dsimp only
  obtain⟨F,l⟩:a<=fs.length/\e=px fs a:=s;refine dh 14 (fun g=>?_) (fun g=>?_)
  ·have g:=of_decide_eq_true g;have f:a<fs.length:=ω;refine ax (fun j=>?_) (fun j=>?_)
   ·have y:px fs a=0:=ω;obtain⟨k,r⟩:=LV y;obtain⟨u,t⟩:=kb k f;have x:=Jw k f;have v:=vS (p:=fun q=>(cM fs q).2) (default:aw) f;have o:px fs (a+1)=if (cM fs (au fs a)).2=true then 0 else 4:=by
     unfold px;rw[if_neg (ψ k),v,r];rfl
    refine aj ?_;refine eu rfl Tryz.call139 (fun w h=>wB A c fs a w (h.ro m) f u x t) (fun⟨⟨z,D⟩,E,B⟩ _=>?_);refine aP ?_;refine cc rfl (fun d=>?_) (fun d=>?_)
    ·have d:(cM fs (au fs a)).2=false:=ψ d;refine aj ?_;refine cG (a+1,4) (⟨f,by rw[o,d];rfl⟩) (by show _ - _<_ - _;omega)
    have d:(cM fs (au fs a)).2=true:=ψ d;refine aj ?_;refine cG (a+1,e) (⟨f,by rw[o,d];show e=0;exact j⟩) (by show _ - _<_ - _;omega)
   refine aj ?_;refine bX e (by rw[l];exact Oh (by rw[<-l];exact j))
  have g:=of_decide_eq_false g;obtain rfl:a=fs.length:=ω;refine aj ?_;refine cA rfl<|aj ?_;refine bX e (l.trans Og)
 rintro e rfl;refine aj ?_;intro w h;exact⟨rfl,h.below⟩
end
