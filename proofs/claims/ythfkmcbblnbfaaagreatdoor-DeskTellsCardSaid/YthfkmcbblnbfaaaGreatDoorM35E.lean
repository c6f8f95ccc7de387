/- Lemmas of one proof. -/
import Derived.Test.YthfkmcbblnbfaaaGreatDoorM90E
import Derived.Test.YthfkmcbblnbfaaaGreatDoorM0E
import Derived.Test.YthfkmcbblnbfaaaGreatDoorM34E

namespace Go.Proofs.YthfkmcbblnbfaaaGreatDoor
set_option maxRecDepth 100000
set_option maxHeartbeats 16000000
open Go.RowKit
section
theorem Gl {l:List bJ} {pc:Nat} (c:∀q∈dT (bE l pc) pc,0<=q/\q<=l.length):dT (bE l pc) pc=xg l pc:=by
 refine qq (wK _ _) ((FG _).filter _) fun b=>?_;unfold xg;rw[sF,qI,My];constructor
 ·intro a;have:=c b ((sF _ _ _).2 a);exact⟨ω,a⟩
 exact fun a=>a.2
theorem wb (A:Option Addr) (c:Nat) (fs:List aw) (k:Nat) (w:World) (bs:Sl w (.slice A fs.length c) fs) (cj:k<fs.length) (I:nF fs (ar fs k)) (O:rU fs (ar fs k)) (V:0<(ar fs k).C.length) :
  Calls Tryz.prog 139 #[.agg #[.slice A fs.length c],.int .i64 (k:Int)] w fun e w'=> ∃g:(Option Addr×Nat)×List iR×List (Value×List Int),ow g.2.1 g.2.2 (cD fs (ar fs k)).1/\e= .returned (.tuple #[.slice g.1.1 g.2.1.length g.1.2,.bool (cD fs (ar fs k)).2])/\
   Cw w.heap.size w [an (.slice g.1.1 g.2.1.length g.1.2) g.2.1,gL g.2.2] w':=by
 obtain⟨ct,cz,J,K,ck,bk,ds,b4⟩:=bs.fn cj;have cp:=(O.res k cj).1;have d3:∀o,o<fs.length->0<=(ar fs o).result:=fun o y=>(O.res o y).1;generalize ar fs k=a at ck bk ds b4 I O V cp⊢;have cm:=I.n40;have c0:=Rz (fs:=fs) V;have c4:jP a.C.length (List.replicate a.C.length lR) [] (xC a.C.length).at_:=⟨by simp,by simp[xC],fun b _=>by
  show lG [] ((List.replicate a.C.length lR).getD b lR).v ((List.replicate a.C.length ([]:List Int)).getD b []);rw[lL,lL];exact .nil_⟩
 refine enter Tryz.func139 rfl Tryz.ntmps139 rfl<|aj ?_;refine fun L _=>aj ?_;refine da k rfl (.ro bs)<|aj ?_;refine eK rfl (fun w p=>b4 _ w p 3 _ rfl)<|aj ?_;refine oE (oI (α:=jJ) lR eG nP rfl (fun w=>⟨⟨rfl,rfl⟩,fun _ d=>d⟩) rfl (by omega) rfl rfl rfl) (fun v _=>aj ?_);refine oE (oI (α:=Bool) false oQ yU rfl (fun w=>⟨rfl,fun _ d=>d⟩) rfl (by omega) rfl rfl rfl) (fun x _=>aj ?_);refine sE (kC (k:=0) oQ tW rfl V rfl rfl rfl) ?_;refine oE (gI (α:=Bool) true false rfl fc V trivial tW rfl rfl rfl rfl rfl rfl rfl rfl) (fun _ _=>aj ?_);refine db (fun w d=>lN d) ?_;refine iT (fun g:eD×List jJ×List (Value×List Int)=>(cD fs a=(mt g.1 a.C.length,true)/\gE a.C.length g.1)/\jP a.C.length g.2.1 g.2.2 g.1.at_) (fun g=> [(6,.slice J a.C.length K),(7,.slice (some ⟨v,0,none⟩) a.C.length a.C.length),(8,.slice (some ⟨x,0,none⟩) a.C.length a.C.length)]) (fun g=> [ak L [.slice A fs.length c] 24,an (.slice (some ⟨v,0,none⟩) a.C.length a.C.length) g.2.1,an (.slice (some ⟨x,0,none⟩) a.C.length a.C.length) g.1.met,gL g.2.2]) ?_ ?_
 ·refine de (fun g:Bool×eD×List jJ×List (Value×List Int)=>((gE a.C.length g.2.1/\pq fs a g.2.1)/\g.2.1.todo= []/\(g.1=false->∀b:Nat,g.2.1.met.getD b false=true->Dn fs a g.2.1 b))/\jP a.C.length g.2.2.1 g.2.2.2 g.2.1.at_) (fun g=>2*tC a.C.length g.2.1+g.1.toNat) (fun g=> [(1,.int .i64 (k:Int)),(2,.pointer (some ⟨L,0,none⟩)),(6,.slice J a.C.length K),(7,.slice (some ⟨v,0,none⟩) a.C.length a.C.length),(8,.slice (some ⟨x,0,none⟩) a.C.length a.C.length),(9,.bool g.1)]) (fun g=> [ak L [.slice A fs.length c] 24,an (.slice (some ⟨v,0,none⟩) a.C.length a.C.length) g.2.2.1,an (.slice (some ⟨x,0,none⟩) a.C.length a.C.length) g.2.1.met,gL g.2.2.2]) (true,xC a.C.length,List.replicate a.C.length lR,[]) (⟨⟨c0,rfl,fun d=>(by cases d)⟩,c4⟩) ?_ (hh:=(fun _ d=>d.msub ms));rintro⟨b8,B,q,m⟩ y
  try dsimp only
  obtain⟨⟨⟨al,cd⟩,a4,c1⟩,am⟩:((gE a.C.length B/\pq fs a B)/\B.todo= []/\(b8=false->∀b:Nat,B.met.getD b false=true->Dn fs a B b))/\jP a.C.length q m B.at_:=y;refine aj ?_;refine bO rfl (fun U=>?_) (fun U=>?_)
  ·have U:b8=true:=U;subst U;refine aj ?_;refine de (fun g:Nat×Bool×eD×List jJ×List (Value×List Int)=>((g.1<=a.C.length/\g.2.1=decide (0<g.2.2.1.todo.length))/\Sw fs a B g.1 g.2.2.1)/\jP a.C.length g.2.2.2.1 g.2.2.2.2 g.2.2.1.at_) (fun g=>a.C.length - g.1) (fun g=> [(1,.int .i64 (k:Int)),(2,.pointer (some ⟨L,0,none⟩)),(6,.slice J a.C.length K),(7,.slice (some ⟨v,0,none⟩) a.C.length a.C.length),(8,.slice (some ⟨x,0,none⟩) a.C.length a.C.length),(9,.bool g.2.1),(10,.int .i64 (g.1:Int))]) (fun g=> [ak L [.slice A fs.length c] 24,an (.slice (some ⟨v,0,none⟩) a.C.length a.C.length) g.2.2.2.1,an (.slice (some ⟨x,0,none⟩) a.C.length a.C.length) g.2.2.1.met,gL g.2.2.2.2]) (0,false,B,q,m) (⟨⟨⟨aU _,by rw[a4];rfl⟩,.start al cd⟩,am⟩) ?_ (hh:=(fun _ d=>d.msub ms));rintro⟨b,G,i,q,m⟩ y
   try dsimp only
   obtain⟨⟨⟨eg,bi⟩,H⟩,Q⟩:((b<=a.C.length/\G=decide (0<i.todo.length))/\Sw fs a B b i)/\jP a.C.length q m i.at_:=y;have M:=H.ok;have:=H.todo al a4 cm;refine ax (fun b6=>?_) (fun b6=>?_)
   ·have s:b<a.C.length:=by omega
    refine aj ?_;refine da _ rfl (SF.own M.ml fc) ?_;refine eK rfl (SF.bool (SF.own M.ml fc) (by omega))<|aj ?_;refine bO rfl (fun u=>?_) (fun u=>?_)
    ·have u:¬i.met.getD b false=true:=by simpa using u
     refine aj ?_;refine cJ (b+1,G,i,q,m) (⟨⟨⟨s,bi⟩,H.skip u⟩,Q⟩) (by show _ - _<_ - _;omega) (hh:=(fun _ d=>d.msub ms))
    have u:i.met.getD b false=true:=by simpa using u
    have S:=Q.el b s;refine ei (fun w d=>S.form d fc) ?_;rintro⟨X,Z,bc⟩;rw[bc] at S;have:=M.st b;refine aj ?_;refine bh [0,3,6,9,12,15,18,21,24,27,30,33,36,39,44,45,48,51,54,57] [] rfl<|aj ?_;refine tE rfl (aW (k:=k) eR fx (.ro bs) (by omega) rfl rfl rfl) ?_;refine tE rfl (eC (b4 _) rfl rfl yX fx)<|aj ?_;refine tE rfl (aW eF gK (.ro bk) (by omega) rfl rfl rfl) ?_;refine tE rfl (eC (cs:= [_,_]) (SF.op (.ro bk) (by omega)) rfl rfl yW gK)<|aj ?_;refine tE rfl (aW eG gu (SF.own Q.hl fc) (by omega) rfl rfl rfl) ?_;refine tE rfl (bU (v:= .slice X (i.at_.getD b []).length Z) (by rw[<-bc];exact SF.hdr (SF.own Q.hl fc) s) rfl rfl gX) ?_;refine kL rfl rfl Tryz.call195 (fun w p=>M3 fs a (bE a.C b) (i.at_.getD b []) A ct J X c cz K Z w (p.ro bs) (p.ro ck) (S.sl p fc) (I.op b s) d3 cp (by omega)) (fun⟨⟨C,D⟩,j⟩ c6=>?_);refine aO ?_;refine bO rfl (fun bb=>?_) (fun bb=>?_)
    ·have W:ig fs a (bE a.C b) (i.at_.getD b [])=none:=by
      cases e:ig fs a (bE a.C b) (i.at_.getD b []) with
      | none=>rfl
      | some r=>rw[e] at bb;cases bb
     rw[Cr I O V (H.bad u W)];refine aj ?_;intro w p;exact⟨((none,0),[],[]),.nil_,rfl,Cw.nilO iR (lN (p.msub (T:= []) ms))⟩
    obtain⟨r,W⟩:∃r,ig fs a (bE a.C b) (i.at_.getD b [])=some r:=by
     cases e:ig fs a (bE a.C b) (i.at_.getD b []) with
     | none=>rw[e] at bb;cases bb
     | some r=>exact⟨r,rfl⟩
    have c9:j=r:=c6 r W;subst c9;have c7:=pF W;have c8:=AV O (I.op b s) (H.inv.ty b u) W;refine db (fun w d=>uw (zR (d.msub (T:=an (.slice C j.length D) j::gL m:: [ak L [.slice A fs.length c] 24,an (.slice (some ⟨v,0,none⟩) a.C.length a.C.length) q,an (.slice (some ⟨x,0,none⟩) a.C.length a.C.length) i.met]) ms))) ?_;have ci:lG ((.slice C j.length D,j)::m) (.slice C j.length D) j:= .new;have ce:=Q.cons (.slice C j.length D,j);generalize (.slice C j.length D,j)::m=cv at ci ce⊢;obtain⟨n,c3⟩:∃n,dT (bE a.C b) b=n:=⟨_,rfl⟩
    have bv:=I.to_ b s;have dV:=pk (bE a.C b) b;have b5:=fun(b1:List Int) (cb:∀h∈b1,h∈dT (bE a.C b) b) (b3:b1.length<=4)=>H.comes I O al a4 s u W (L:=b1) cb b3;have co:=Gl (l:=a.C) (pc:=b) (fun h bo=>bv h bo);have cr:=fun f=>H.step (s':=f) I O al a4 s u W;rw[c3] at bv dV b5 co cr;have d0:∀a0,Sl a0 (.slice J a.C.length K) a.C->Calls Tryz.prog 196 #[.slice J a.C.length K,.int .i64 (b:Int)] a0 fun e w'=> ∃g:Option Addr×Nat,True/\e= .returned (.slice g.1 n.length g.2)/\Cw a0.heap.size a0 [an (.slice g.1 n.length g.2) n] w':=fun a0 d=>by
     rw[co];exact Po J K a.C b a0 d s cm
    refine aj ?_;refine et rfl Tryz.call196 (fun w p=>d0 w (p.ro bk)) (fun⟨b0,b2⟩ _=>?_);refine aO ?_;refine de (fun g:Nat×Bool×eD×List jJ×List (Value×List Int)=>(((g.1<=n.length/\g.2.1=decide (0<g.2.2.1.todo.length))/\gE a.C.length g.2.2.1/\g.2.2.1.todo.length<=i.todo.length+g.1)/\dW a.C.length i (n.take g.1) j=some g.2.2.1/\lG g.2.2.2.2 (.slice C j.length D) j)/\jP a.C.length g.2.2.2.1 g.2.2.2.2 g.2.2.1.at_) (fun g=>n.length - g.1) (fun g=> [(1,.int .i64 (k:Int)),(2,.pointer (some ⟨L,0,none⟩)),(6,.slice J a.C.length K),(7,.slice (some ⟨v,0,none⟩) a.C.length a.C.length),(8,.slice (some ⟨x,0,none⟩) a.C.length a.C.length),(9,.bool g.2.1),(10,.int .i64 (b:Int)),(11,.slice C j.length D),(13,.slice b0 n.length b2),(14,.int .i64 (g.1:Int))]) (fun g=> [ak L [.slice A fs.length c] 24,an (.slice (some ⟨v,0,none⟩) a.C.length a.C.length) g.2.2.2.1,an (.slice (some ⟨x,0,none⟩) a.C.length a.C.length) g.2.2.1.met,gL g.2.2.2.2,an (.slice b0 n.length b2) n]) (0,G,i,q,cv) (⟨⟨⟨⟨aU _,bi⟩,M,aF _⟩,rfl,ci⟩,ce⟩) ?_ (hh:=(fun _ d=>d.msub ms));rintro⟨o,G,f,q,m⟩ y
    try dsimp only
    obtain⟨⟨⟨⟨el,cf⟩,a3,em⟩,bl,a7⟩,N⟩:(((o<=n.length/\G=decide (0<f.todo.length))/\gE a.C.length f/\f.todo.length<=i.todo.length+o)/\dW a.C.length i (n.take o) j=some f/\lG m (.slice C j.length D) j)/\jP a.C.length q m f.at_:=y;refine ax (fun T=>?_) (fun T=>?_)
    ·have T:o<n.length:=by omega
     have cl:n.getD o 0∈n:=by rw[ap,aq T];exact dh _
     obtain⟨h,bo⟩:∃h:Nat,n.getD o 0=(h:Int):=⟨(n.getD o 0).toNat,by have:=bv _ cl;omega⟩
     have d2:h<=a.C.length:=by have:=bv _ cl;omega
     have P:=sQ T bl;rw[bo,bq] at P;have a6:=ou a3 d2 c7 (by omega);refine aj ?_;refine da _ rfl (SF.own rfl fc) ?_;refine mQ rfl (SF.own rfl fc)<|aj ?_;refine cN (t:=15) (v':= .int .i64 (h:Int)) rfl (by rw[bo]) ?_;have ch:(dI a.C.length f h j).1=false->cD fs a=([],false):=fun d=>Cr I O V ((b5 n (fun h d=>d) (by omega)).2 (sR (k:=o+1) (by rw[P,d];rfl)));refine eI rfl (fun d1=>?_) (fun d1=>?_)
     ·rw[ch (by unfold dI;rw[if_pos (by omega)])];refine aj ?_;intro w p;exact⟨((none,0),[],[]),.nil_,rfl,Cw.nilO iR (lN (p.msub (T:= []) ms))⟩
     have E:h<a.C.length:=by omega
     refine aj ?_;refine da _ rfl (SF.own a3.ml fc) ?_;refine eK rfl (SF.bool (SF.own a3.ml fc) (by omega))<|aj ?_;refine bO rfl (fun z=>?_) (fun z=>?_)
     ·have z:¬f.met.getD h false=true:=by simpa using z
      have a5:dI a.C.length f h j=(true,⟨f.at_.set h j,f.met.set h true,f.todo++ [(h:Int)]⟩):=by unfold dI;rw[if_neg (by omega),if_neg z]
      rw[a5] at a6 P;refine aj ?_;refine sE (kC eG gu rfl E rfl rfl rfl) ?_;refine oE (gI (α:=jJ) ⟨.slice C j.length D⟩ lR rfl fc E rfl gu rfl rfl rfl rfl rfl rfl rfl rfl) (fun _ _=>?_);refine sE (kC oQ tW rfl E rfl rfl rfl) ?_;refine oE (gI (α:=Bool) true false rfl fc E trivial tW rfl rfl rfl rfl rfl rfl rfl rfl) (fun _ _=>aj ?_);refine cJ (o+1,true,⟨f.at_.set h j,f.met.set h true,f.todo++ [(h:Int)]⟩,q.set h ⟨.slice C j.length D⟩,m) (⟨⟨⟨⟨T,by simp⟩,a6.1,by show (f.todo++ [(h:Int)]).length<=i.todo.length+(o+1);rw[au,aT];omega⟩,P,a7⟩,N.set E a7⟩) (by show _ - _<_ - _;omega) (hh:=(fun _ d=>d.msub ms))
     have z:f.met.getD h false=true:=by simpa using z
     have c2:=((b5 (n.take o) (fun h d=>jN d) (by rw[aB];omega)).1 f bl).1;have bm:=N.el h E;have:=a3.st h;refine ei (fun w d=>bm.form d fc) ?_;rintro⟨Y,ad,b7⟩;rw[b7] at bm;refine aj ?_;refine da _ rfl (SF.own N.hl fc) ?_;refine sE (bU (v:= .slice Y (f.at_.getD h []).length ad) (by rw[<-b7];exact SF.hdr (SF.own N.hl fc) E) rfl rfl gX)<|aj ?_;refine oE (fm rfl rfl rfl Tryz.call197 (fun w p=>FJ Y C ad D (f.at_.getD h []) j w (bm.sl p fc) (a7.sl p fc) (c2.ty h z) c8 (by omega))) (fun⟨a1,a2⟩ _=>?_);refine aO ?_;refine bO rfl (fun a9=>?_) (fun a9=>?_)
     ·have a8:bX (f.at_.getD h []) j=none:=by
       cases e:bX (f.at_.getD h []) j with
       | none=>rfl
       | some r=>rw[e] at a9;cases a9
      rw[ch (by unfold dI;rw[if_neg (by omega),if_pos z,a8])];refine aj ?_;intro w p;exact⟨((none,0),[],[]),.nil_,rfl,Cw.nilO iR (lN (p.msub (T:= []) ms))⟩
     obtain⟨F,a8⟩:∃r,bX (f.at_.getD h []) j=some r:=by
      cases e:bX (f.at_.getD h []) j with
      | none=>rw[e] at a9;cases a9
      | some r=>exact⟨r,rfl⟩
     rw[a8,rY];refine aj ?_;refine da _ rfl (SF.own N.hl fc) ?_;refine sE (bU (v:= .slice Y (f.at_.getD h []).length ad) (by rw[<-b7];exact SF.hdr (SF.own N.hl fc) E) rfl rfl gX) ?_;refine cE rfl qQ (fun w p=>lH a1 Y a2 ad F (f.at_.getD h []) w (SF.at_ (SF.own rfl fc) p) (bm.sl p fc))<|aj ?_;refine bO rfl (fun R=>?_) (fun R=>?_)
     ·have R:¬F=f.at_.getD h []:=by simpa using R
      have d4:f.met.set h true=f.met:=by
       refine List.ext_getElem (by simp) fun eq cb b3=>?_;rw[List.getElem_set]
       split
       ·rename_i e;subst e;rw[ap,aq b3] at z;exact z.symm
       rfl
      have a5:dI a.C.length f h j=(true,⟨f.at_.set h F,f.met,f.todo++ [(h:Int)]⟩):=by
       unfold dI;rw[if_neg (by omega),if_pos z,a8];simp only[];rw[if_neg R,d4]
      rw[a5] at a6 P;refine db (fun w d=>uw (zR (d.msub (T:=an (.slice a1 F.length a2) F::gL m:: [ak L [.slice A fs.length c] 24,an (.slice (some ⟨v,0,none⟩) a.C.length a.C.length) q,an (.slice (some ⟨x,0,none⟩) a.C.length a.C.length) f.met,an (.slice b0 n.length b2) n]) ms)))<|aj ?_;refine sE (kC eG gu rfl E rfl rfl rfl) ?_;refine oE (gI (α:=jJ) ⟨.slice a1 F.length a2⟩ lR rfl fc E rfl gu rfl rfl rfl rfl rfl rfl rfl rfl) (fun _ _=>aj ?_);refine cJ (o+1,true,⟨f.at_.set h F,f.met,f.todo++ [(h:Int)]⟩,q.set h ⟨.slice a1 F.length a2⟩,(.slice a1 F.length a2,F)::m) (⟨⟨⟨⟨T,by simp⟩,a6.1,by show (f.todo++ [(h:Int)]).length<=i.todo.length+(o+1);rw[au,aT];omega⟩,P,a7.cons⟩,(N.cons _).set E .new⟩) (by show _ - _<_ - _;omega) (hh:=(fun _ d=>d.msub ms))
     have R:F=f.at_.getD h []:=by simpa using R
     have a5:dI a.C.length f h j=(true,f):=by
      unfold dI;rw[if_neg (by omega),if_pos z,a8];simp only[];rw[if_pos R]
     rw[a5] at a6 P;refine aj ?_;refine cJ (o+1,G,f,q,m) (⟨⟨⟨⟨T,cf⟩,a3,by show f.todo.length<=i.todo.length+(o+1);omega⟩,P,a7⟩,N⟩) (by show _ - _<_ - _;omega) (hh:=(fun _ d=>d.msub ms))
    obtain rfl:o=n.length:=by omega
    rw[aR] at bl;have c5:=cr f bl;refine aj ?_;refine cJ (b+1,G,f,q,m) (⟨⟨⟨s,cf⟩,c5⟩,N⟩) (by show _ - _<_ - _;omega) (hh:=(fun _ d=>d.msub ms))
   obtain rfl:b=a.C.length:=by omega
   refine aj ?_
   by_cases ba:i.todo= []
   ·obtain⟨rfl,dn⟩:=H.dn ba;refine Dg (G,i,q,m) (⟨⟨⟨M,H.inv⟩,ba,fun _ o y=>dn o (zF M y) y⟩,Q⟩) ((by rw[bi,ba];exact yb _)) (hh:=(fun _ d=>d.msub ms))
   obtain⟨cw,cx,d5⟩:=H.again a4 ba;refine Dg (G,⟨i.at_,i.met,[]⟩,q,m) (⟨⟨⟨cw,cx⟩,rfl,fun d=>absurd (rW.2 ba) (by rw[bi] at d;simpa using d)⟩,Q⟩) ((by cases G;(· show 2*tC a.C.length ⟨i.at_,i.met,[]⟩+0<2*tC a.C.length B+1;omega);(· show 2*tC a.C.length ⟨i.at_,i.met,[]⟩+1<2*tC a.C.length B+1;omega))) (hh:=(fun _ d=>d.msub ms))
  have U:b8=false:=by simpa using U
  have dj:=Lu I O V al cd (c1 U);refine aj ?_;refine bW (B,q,m) (⟨⟨dj,al⟩,am⟩) (hh:=(fun _ d=>d.msub ms))
 rintro⟨i,q,m⟩ y;obtain⟨⟨hent,M⟩,am⟩:(cD fs a=(mt i a.C.length,true)/\gE a.C.length i)/\jP a.C.length q m i.at_:=y;rw[hent]
 try dsimp only
 refine db (fun w d=>Cw.nilO iR d)<|aj ?_;refine de (fun g:Nat×List iR×Option Addr×Nat=>g.1<=a.C.length/\ow g.2.1 m (mt i g.1)) (fun g=>a.C.length - g.1) (fun g=> [(6,.slice J a.C.length K),(7,.slice (some ⟨v,0,none⟩) a.C.length a.C.length),(8,.slice (some ⟨x,0,none⟩) a.C.length a.C.length),(18,.slice g.2.2.1 g.2.1.length g.2.2.2),(19,.int .i64 (g.1:Int))]) (fun g=> [an (.slice g.2.2.1 g.2.1.length g.2.2.2) g.2.1,an (.slice (some ⟨v,0,none⟩) a.C.length a.C.length) q,an (.slice (some ⟨x,0,none⟩) a.C.length a.C.length) i.met,gL m]) (0,[],none,0) (⟨aU _,.nil_⟩) ?_;rintro⟨b,bf,b9,ca⟩ dz
 try dsimp only
 obtain⟨ej,bp⟩:b<=a.C.length/\ow bf m (mt i b):=dz;have:=bp.len;have:=EO i b;refine ax (fun b6=>?_) (fun b6=>?_)
 ·have s:b<a.C.length:=by omega
  have bt:=wx i b;refine aj ?_;refine da _ rfl (SF.own M.ml fc) ?_;refine eK rfl (SF.bool (SF.own M.ml fc) (by omega))<|aj ?_;refine bO rfl (fun u=>?_) (fun u=>?_)
  ·rw[if_pos u] at bt;have S:=am.el b s;refine aj ?_;refine da _ rfl (SF.own am.hl fc) ?_;refine rm (fun w d=>S.form d fc) ?_;rintro⟨X,Z,bc⟩;rw[bc] at S;refine sE (bU (v:= .slice X (i.at_.getD b []).length Z) (by rw[<-bc];exact SF.hdr (SF.own am.hl fc) s) rfl rfl gX)<|aj ?_;intro d6 _;refine oE (bV (α:=iR) (bytes:=32) ⟨b,.slice X (i.at_.getD b []).length Z⟩ [] rfl V1 (aS AK) rfl (eB fc fc) (df ⟨⟨by show (-9223372036854775808:Int)<=(b:Int);omega,by show (b:Int)<=9223372036854775807;omega⟩,rfl⟩) (by omega) (by omega) rfl rfl rfl) (fun⟨Y,ad⟩ _=>?_);refine aO ?_;refine cJ (b+1,bf++ [⟨b,.slice X (i.at_.getD b []).length Z⟩],Y,ad) (⟨s,by rw[bt];exact bp.snoc rfl S⟩) (by show _ - _<_ - _;omega)
  rw[if_neg (by rw[u];decide)] at bt;refine aj ?_;refine cJ (b+1,bf,b9,ca) (⟨s,by rw[bt];exact bp⟩) (by show _ - _<_ - _;omega)
 obtain rfl:b=a.C.length:=by omega
 refine aj ?_;intro w p;exact⟨((b9,ca),bf,m),bp,rfl,p.msub ms⟩
end
section
def ph (fs:List aw) (i:Nat):Int:=if dc fs≠0 then dc fs else if (fs.take i).all (fun f=>(cD fs f).2)=true then 0 else 4
theorem NR {fs:List aw} {i:Nat} (h:ph fs i≠0):ph fs i=dN fs:=by
 unfold ph at h⊢;unfold dN
 by_cases a:dc fs≠0
 ·rw[if_pos a,if_pos a]
 rw[if_neg a] at h⊢;rw[if_neg a]
 by_cases b:(fs.take i).all (fun d=>(cD fs d).2)=true
 ·rw[if_pos b] at h;exact absurd rfl h
 rw[if_neg b,if_neg];intro c
 apply b
 rw[pu] at c⊢;exact fun f e=>c f (jN e)
theorem NQ {fs:List aw} :ph fs fs.length=dN fs:=by unfold ph dN;rw[aR]
theorem Lp {fs:List aw} {i:Nat} (h:ph fs i=0):dc fs=0/\(fs.take i).all (fun f=>(cD fs f).2)=true:=by
 unfold ph at h
 by_cases a:dc fs≠0
 ·rw[if_pos a] at h;exact absurd h a
 rw[if_neg a] at h;refine⟨τ a,?_⟩
 split at h
 ·assumption
 cases h
theorem tx (A:Option Addr) (c:Nat) (fs:List aw) (w:World) (m:Sl w (ac A fs.length c) fs) :
  Calls Tryz.prog 78 #[.agg #[ac A fs.length c]] w fun e w'=>e= .returned (ai (dN fs))/\Below w.heap.size w w':=by
 have:=bA m;refine enter Tryz.func78 rfl Tryz.ntmps78 rfl<|aj ?_;refine fun n _=>aj ?_;refine cE rfl Tryz.call138 (fun w h=>xF A c fs w (h.ro m))<|aj ?_;refine iT (fun e:Int=>e=dN fs) (fun e=> [(3,ai e)]) (fun _=> []) ?_ ?_
 ·refine de (fun b:Nat×Int=>b.1<=fs.length/\b.2=ph fs b.1) (fun b=>fs.length - b.1) (fun b=> [(1,af n),(3,ai b.2),(4,ai (b.1:Int))]) (fun _=> [ak n [ac A fs.length c] 24]) (0,dc fs) (⟨aU _,by show dc fs=ph fs 0;unfold ph;rw[List.take_zero];by_cases i:dc fs≠0;(· rw[if_pos i]);(· rw[if_neg i,List.all_nil,if_pos rfl];simpa using i)⟩) ?_;rintro⟨a,e⟩ s
  try dsimp only
  obtain⟨F,l⟩:a<=fs.length/\e=ph fs a:=s;refine cR 14 (fun g=>?_) (fun g=>?_)
  ·have g:=of_decide_eq_true g;have f:a<fs.length:=ω;refine ax (fun j=>?_) (fun j=>?_)
   ·have y:ph fs a=0:=ω;obtain⟨k,r⟩:=Lp y;obtain⟨u,t⟩:=jo k f;have x:=IW k f;have v:=vB (p:=fun q=>(cD fs q).2) (default:aw) f;have o:ph fs (a+1)=if (cD fs (ar fs a)).2=true then 0 else 4:=by
     unfold ph;rw[if_neg (τ k),v,r];rfl
    refine aj ?_;refine et rfl Tryz.call139 (fun w h=>wb A c fs a w (h.ro m) f u x t) (fun⟨⟨z,D⟩,E,B⟩ _=>?_);refine aO ?_;refine bO rfl (fun d=>?_) (fun d=>?_)
    ·have d:(cD fs (ar fs a)).2=false:=τ d;refine aj ?_;refine cJ (a+1,4) (⟨f,by rw[o,d];rfl⟩) (by show _ - _<_ - _;omega)
    have d:(cD fs (ar fs a)).2=true:=τ d;refine aj ?_;refine cJ (a+1,e) (⟨f,by rw[o,d];show e=0;exact j⟩) (by show _ - _<_ - _;omega)
   refine aj ?_;refine bW e (by rw[l];exact NR (by rw[<-l];exact j))
  have g:=of_decide_eq_false g;obtain rfl:a=fs.length:=ω;refine aj ?_;refine bY rfl<|aj ?_;refine bW e (l.trans NQ)
 rintro e rfl;refine aj ?_;intro w h;exact⟨rfl,h.below⟩
end
