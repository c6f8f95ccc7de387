/- Lemmas of one proof. -/
import Derived.Test.YthfkmcbblnbfaaaGreatDoorM90W
import Derived.Test.YthfkmcbblnbfaaaGreatDoorM0W
import Derived.Tactics
import Derived.Tactics2
import Derived.Laws.Pointers
import Derived.Test.YthfkmcbblnbfaaaGreatDoorM37W
import Derived.Test.YthfkmcbblnbfaaaGreatDoorM21W

namespace Go.Proofs.YthfkmcbblnbfaaaGreatDoor
set_option maxRecDepth 100000
set_option maxHeartbeats 16000000
open Go.RowKit
section
theorem FY (a:Int) (w:World):(binOp .neq 20 (.iface 213 (ai a)) .nilIface).run Tryz.prog w= .ok (.bool true) w:=by kernel_rfl
theorem Bk (w:World):(binOp .neq 20 .nilIface .nilIface).run Tryz.prog w= .ok (.bool false) w:=by kernel_rfl
theorem Bn (a:Int) (w:World):(Instr.typeAssert (.iface 213 (ai a)) 20 213 true).run Tryz.prog w= .ok (.tuple #[ai a,.bool true]) w:=by kernel_rfl
section
variable {B:Nat} {w0:World} {H:List aO}
theorem Mi (g:Nat) (b:Int) (w:World) (c:Cw B w0 (ak g [.int .i64 0] 213::H) w) :
  CallsD Tryz.prog 215 #[.pointer (some ⟨g,0,none⟩)] (.panicking (sL b)) w fun e i w'=>(∃v,e= .returned v) /\ settle i= .returning /\ Cw B w0 (ak g [.int .i64 b] 213::H) w':=by
 refine callsD_of_wpS Tryz.func215 rfl fun l k f=>?_
 apply wpS_seq
 apply wpS_region
 simp[wpOpsS,go_sem,recoverD,f,Tryz.ntmps215,Exit.thenS,sL]
 refine wpS_of_wp ?_
 refine(show CW Tryz.prog ⟨16,[]⟩ B w0 _ _ [(0,.pointer (some ⟨g,0,none⟩)),(1,.iface 213 (.int .i64 b))] (ak g [.int .i64 0] 213::H) from ?_) _ w ?_ c
 ·refine aj ?_
  refine sE (pY rfl rfl rfl (FY b) (fun _=>rfl))<|aj ?_
  refine be rfl<|aj ?_
  refine sE (zS (Bn b) rfl rfl)<|aj ?_
  refine cT (t:=13) (v':= .bool false) rfl (rfl) ?_
  refine cA rfl<|aj ?_
  intro j w d c
  refine⟨d.2.1,_,rfl,.tuple #[],?_,⟨_,rfl⟩,rfl,c.msub ms⟩
  simp[results,Tryz.results215]
 ·refine⟨by simp,rfl,fun h v e=>?_⟩
  simp only[lk] at e
  split at e
  ·rename_i a
   have a:=cI a
   subst a
   injection e with e
   subst e
   exact⟨by show _<16;decide,by simp⟩
  ·split at e
   ·rename_i a
    have a:=cI a
    subst a
    injection e with e
    subst e
    exact⟨by show _<16;decide,by simp⟩
   ·cases e
theorem vv (g:Nat) (c:Value) (w:World) (b:Cw B w0 (ak g [c] 213::H) w) :
  CallsD Tryz.prog 215 #[.pointer (some ⟨g,0,none⟩)] .returning w fun e i w'=>(∃v,e= .returned v) /\ i= .returning /\ Cw B w0 (ak g [c] 213::H) w':=by
 refine callsD_of_wpS Tryz.func215 rfl fun l k d=>?_
 apply wpS_seq
 apply wpS_region
 simp[wpOpsS,go_sem,recoverD,d,Tryz.ntmps215,Exit.thenS]
 refine wpS_of_wp ?_
 refine(show CW Tryz.prog ⟨16,[]⟩ B w0 _ _ [(0,.pointer (some ⟨g,0,none⟩)),(1,.nilIface)] (ak g [c] 213::H) from ?_) _ w ?_ b
 ·refine aj ?_
  refine sE (pY rfl rfl rfl Bk (fun _=>rfl))<|aj ?_
  refine cT (t:=6) (v':= .bool false) rfl (rfl) ?_
  refine cA rfl<|aj ?_
  intro j w f b
  refine⟨f.2.1,.returning,?_,.tuple #[],?_,⟨_,rfl⟩,rfl,b.msub ms⟩
  ·rw[←d]
  ·simp[results,Tryz.results215]
 ·refine⟨by simp,rfl,fun h v e=>?_⟩
  simp only[lk] at e
  split at e
  ·rename_i a
   have a:=cI a
   subst a
   injection e with e
   subst e
   exact⟨by show _<16;decide,by simp⟩
  ·split at e
   ·rename_i a
    have a:=cI a
    subst a
    injection e with e
    subst e
    exact⟨by show _<16;decide,by simp⟩
   ·cases e
end
end
section
structure F7 (fs:List aw) (m:av) (li:List aK) (x:aK) (kf:Nat):Prop where
 fr:m.F=li++ [x]
 fn:x.func=kf
 hkf:kf<fs.length
 pc:0<=x.pc/\x.pc<(au fs kf).C.length
 nd:vD fs m.B.length {x with pc:=x.pc+1} (bH (au fs kf).C x.pc.toNat)
 bl:cR m.B=0
 sl:x.K.length<=900
 st:∀y∈li,y.K.length<=1000
 ol:m.out.length<=1000
 n6:li.length<=1000
 oa:aI (bH (au fs kf).C x.pc.toNat).a
 cl:(au fs kf).C.length<=1000
def Sd:(av×MA)⊕Int->Int
 | .inl _=>0
 | .inr why=>why
def Vx:(av×MA)⊕Int->Int⊕av
 | .inl r=> .inr r.1
 | .inr why=> .inl why
def Sf (gd:Nat) (pv:Value) (T:TypeId) (H:List aO):(av×MA)⊕Int->List aO
 | .inl r=>ak gd [.slice r.2.Af r.1.F.length r.2.cf,.slice r.2.Ab r.1.B.length r.2.cb,.slice r.2.Ai r.1.I.length r.2.ci,.slice r.2.Ao r.1.out.length r.2.co,.int .i64 r.1.S,.int .i64 r.1.T,pv] T::
   an (.slice r.2.Af r.1.F.length r.2.cf) r.1.F::an (.slice r.2.Ab r.1.B.length r.2.cb) r.1.B::an (.slice r.2.Ai r.1.I.length r.2.ci) r.1.I::an (.slice r.2.Ao r.1.out.length r.2.co) r.1.out::H
 | .inr _=>H
theorem Lu {α β:Type} {f:α->β} {l:List α} {a:List β} {b:β} (h:l.map f=a++ [b]):∃d q,l=d++ [q]/\d.map f=a/\f q=b:=by
 rcases eX l with c | ⟨d,q,c⟩
 ·rw[c] at h;simp at h
 have c:l=d++ [q]:=by rw[c];simp
 subst c;rw[db] at h;obtain⟨g,e⟩:=List.append_inj' h rfl;simp at e;exact⟨d,q,rfl,g,e⟩
section
variable {B:Nat} {w0:World} {H:List aO}
theorem Iq {P:Program} {n:NF} {Q:Exit->Act->World->Prop} {r:cS} {x:Code} {H':List aO} {A:Option Addr} {c:Nat} {li:List aK} {y:aK} (D:cu H (an (ac A (li++ [y]).length c) (li++ [y])) H')
  (h:∀(l:List (aF×aK)) (d e:Option Addr) (f cs:Nat),l.map Prod.snd=li->gP l->CW P n B w0 x Q r (an (ac A (li++ [y]).length c) (l.map Prod.fst++ [(⟨y.func,y.pc,ac d y.L.length f,ac e y.K.length cs⟩:aF)])::an (ac e y.K.length cs) y.K::an (ac d y.L.length f) y.L::cJ l::H')) :
  CW P n B w0 x Q r H:=by
 refine AW D fun l w s=>?_;obtain⟨p,⟨g,a⟩,rfl,z,o⟩:=Lu w;have o:a=y:=o;subst o;have C:g.func=a.func/\g.pc=a.pc:=s (g,a) σ;obtain⟨t,u,k,m⟩:=g;obtain⟨i,j⟩:=C;have i:t=a.func:=i;have j:u=a.pc:=j;subst i j;refine dm (fun q b=>yW (b.msub (T:=cJ (p++ [(⟨a.func,a.pc,k,m⟩,a)])::an (ac A (li++ [a]).length c) ((p++ [((⟨a.func,a.pc,k,m⟩:aF),a)]).map Prod.fst)::H') ms)) ?_;refine ek (fun q b=>b.oform (v:=m) (xs:=a.K) .b) ?_;rintro⟨e,cs,rfl⟩;refine ek (fun q b=>b.oform (v:=k) (xs:=a.L) .a) ?_;rintro⟨d,f,rfl⟩;simp only[db,eM,iI];refine dm (fun q b=>?_) (h p d e f cs z s.left);exact b.msub ms
theorem Lq (gd:Nat) (u:MA) (m:av) (C:Option Addr) (E:Nat) (fs:List aw) (L:bO w0 B (.slice C fs.length E) fs) (o:List aK) (x:aK) (a:Nat) (a9:F7 fs m o x a) (w:World)
  (b:Cw B w0 (ak gd [.slice u.Af m.F.length u.cf,.slice u.Ab m.B.length u.cb,.slice u.Ai m.I.length u.ci,.slice u.Ao m.out.length u.co,.int .i64 m.S,.int .i64 m.T,.slice C fs.length E] 212::
   an (.slice u.Af m.F.length u.cf) m.F::an (.slice u.Ab m.B.length u.cb) m.B::an (.slice u.Ai m.I.length u.ci) m.I::an (.slice u.Ao m.out.length u.co) m.out::H) w) :
  Calls Tryz.prog 161 #[.pointer (some ⟨gd,0,none⟩)] w fun e w'=> ∃g,mO fs m=Vx g /\ e= .returned (.int .i64 (Sd g)) /\ Cw B w0 (Sf gd (.slice C fs.length E) 212 H g) w':=by
 obtain⟨S,R,bg,al,bm,ba,b1,V,bo,Y,bn,cf⟩:=a9
 obtain⟨a6,i,r,l,F,p⟩:=m
 obtain⟨a3,h,d,c⟩:=x
 have S:a6=o++ [⟨a3,h,d,c⟩]:=S
 subst S
 have R:a3=a:=R
 subst R
 have al:0 <= h /\ h<(au fs a).C.length:=al
 have b2:c.length <= 900:=b1
 have bb:cR i=0:=ba
 have bp:l.length <= 1000:=bo
 have ad:aI (bH (au fs a).C h.toNat).a:=bn
 have Z:vD fs i.length ⟨a,h+1,d,c⟩ (bH (au fs a).C h.toNat):=bm
 have bi:(o++ [(⟨a,h,d,c⟩:aK)]).length=o.length+1:=by simp
 have bs:bd fs ⟨o++ [⟨a,h,d,c⟩],i,r,l,F,p⟩=bH (au fs a).C h.toNat:=by
  unfold bd io
  simp
 have y:mO fs ⟨o++ [⟨a,h,d,c⟩],i,r,l,F,p⟩=if (bH (au fs a).C h.toNat).c=21 then
   (if r= [] then .inr ⟨o++ [⟨a,h,d,c⟩],i,r,l,1,p⟩
   else .inr ⟨o++ [⟨a,h+1,d,c++ [cY (r.getD 0 0)]⟩],i,r.drop 1,l,0,p⟩)
   else bR fs ⟨o++ [⟨a,h,d,c⟩],i,r,l,F,p⟩ o ⟨a,h+1,d,c⟩ (bH (au fs a).C h.toNat):=by
  unfold mO
  rw[bs]
  unfold io
  simp
 obtain⟨W,T⟩:∃W,bH (au fs a).C h.toNat=W:=⟨_,rfl⟩
 rw[T] at Z ad y
 obtain⟨b5,ca,b6,cb,ci,Q,cg,bc⟩:=L.fn bg
 refine AR Tryz.func161 rfl Tryz.ntmps161 rfl b ?_
 dsimp only
 refine Iq fc fun k q D s A bk U=>?_
 rw[bi]
 subst bk
 rw[aL]
 have ch:k.length <= 1000:=by rw[aL] at Y;exact Y
 have V:∀X∈k,X.2.K.length <= 1000:=fun X bw=>V X.2 (kz bw)
 obtain⟨n,J⟩:∃n,k.length=n:=⟨_,rfl⟩
 rw[J]
 have z:(k.map Prod.fst).length=n:=by rw[aL];exact J
 have bl:∀K:aF,(k.map Prod.fst++ [K]).length=n+1:=fun K=>by rw[ar,z];rfl
 refine ek (fun w b=>ue b .a) ?_
 intro M
 have M:aF.wf _:=M
 have a0:aI (h+1):=by unfold aI;omega
 have b9:=bx L
 have b8:=bx Q
 obtain⟨f,am⟩:∃f:Nat,h=f:=⟨h.toNat,by omega⟩
 subst am
 rw[bu] at T
 have am:f<(au fs a).C.length:=by omega
 refine aj ?_
 refine fun I _=>aj ?_
 refine Ei rfl rfl rfl rfl ?_
 refine aj ?_
 refine cO rfl Gf (fun w b=>sk gd n u.cf u.Af (k.map Prod.fst++ [(⟨a,f,.slice q d.length s,.slice D c.length A⟩:aF)]) w (gt fc rfl w b) (nv b fc) (SF.at_ (SF.own (bl _) fc) b))<|aj ?_
 refine bq [0,3,6,9,12,15,18,21,24,27,30,33,36,39,42,45,48,51,56,59] [19] rfl<|aj ?_
 refine tE rfl (bY (fX (j:=0) z fc rfl) rfl rfl bF) ?_
 refine tE rfl (aX (k:=a) ff fw (.ro L) (by omega) rfl rfl rfl)<|aj ?_
 refine tE rfl (bY (fun w b=>bc _ w b 3 _ rfl) rfl rfl rF)<|aj ?_
 refine tE rfl (bY (fX (j:=1) z fc rfl) rfl rfl bF) ?_
 refine tE rfl (aX (k:=f) eH gN (.ro Q) (by omega) rfl rfl rfl) ?_
 refine tE rfl (eC (cs:= [_,_]) (SF.op (.ro Q) (by omega)) rfl rfl zu gN)<|aj ?_
 refine fun ce _=>aj ?_
 rw[T]
 refine eK rfl (fun P=>?_) (fun P=>?_)
 ·rw[if_pos P] at y
  rcases r with _ | ⟨G,a1⟩
  ·rw[if_pos rfl] at y
   refine aj ?_
   refine du rfl Tryz.call217 (fun w b=>GK gd (.slice u.Af (n+1) u.cf) (.slice u.Ab i.length u.cb) (.slice u.Ao l.length u.co) (.int .i64 p) (.slice C fs.length E) u.Ai u.ci F w (b.msub (.s fc .r))) (fun _ _=>aj ?_)
   refine cT (t:=30) (v':= .bool false) rfl (rfl) ?_
   refine cA rfl ?_
   refine fq (fm ?_)
   refine cE ?_
   refine bQ ?_
   refine dN (dk _ fc U4 rfl rfl rfl rfl rfl (by rfl) rfl (by rfl)) rfl rfl (fun _ _=>?_)
   refine bL ?_
   refine iQ (fz ?_)
   refine Bs (fun _=>by simp[go_sem]) (fun w b=>vv I _ w (b.perm fc)) Gb (rM .a MQ rfl) (fun w b=>?_)
   exact⟨.inl (⟨k.map Prod.snd++ [(⟨a,f,d,c⟩:aK)],i,[],l,1,p⟩,u),y,rfl,jx (h:=⟨a,f,.slice q d.length s,.slice D c.length A⟩) (x:=⟨a,f,d,c⟩) J U ⟨rfl,rfl⟩ (b.msub ms)⟩
  ·rw[if_neg (by simp)] at y
   refine aj ?_
   refine du rfl Tryz.call217 (fun w b=>GJ gd n (k.map Prod.fst) z u.Af D u.Ai u.cf A u.ci (.slice u.Ab i.length u.cb) (.slice u.Ao l.length u.co) (.int .i64 p) (.slice C fs.length E) F a f (.slice q d.length s) c G a1 w (by omega) (b.msub (.s fc (.s fc (.s fc (.s fc .r)))))) (fun⟨⟨N,O⟩,⟨a4,a5⟩⟩ _=>?_)
   refine aP ?_
   refine cT (t:=30) (v':= .bool true) rfl (rfl) ?_
   refine be rfl<|aj ?_
   refine ef rfl (fX (v:= .int .i64 (f:Int)) (j:=1) z fc rfl) ?_
   refine dR (tV rfl rfl rfl (by omega)) rfl rfl ?_
   refine aC ?_
   refine aC ?_
   refine oE (mY (α:=aF) ⟨a,f,.slice q d.length s,.slice N (c++ [cY G]).length O⟩ ⟨a,(f:Int)+1,.slice q d.length s,.slice N (c++ [cY G]).length O⟩ z fc ⟨⟨M.1.1,a0⟩,rfl,rfl⟩ aZ rfl rfl rfl rfl rfl rfl rfl rfl) (fun _ _=>?_)
   refine bL ?_
   refine cE ?_
   refine bQ ?_
   refine dN (dk _ fc U4 rfl rfl rfl rfl rfl (by rfl) rfl (by rfl)) rfl rfl (fun _ _=>?_)
   refine bL ?_
   refine iQ (fz ?_)
   refine Bs (fun _=>by simp[go_sem]) (fun w b=>vv I _ w (b.perm fc)) Gb (rM .a MQ rfl) (fun w b=>?_)
   exact⟨.inl (⟨k.map Prod.snd++ [(⟨a,(f:Int)+1,d,c++ [cY G]⟩:aK)],i,a1,l,0,p⟩,⟨u.Af,u.cf,u.Ab,u.cb,a4,a5,u.Ao,u.co⟩),y,rfl,jx (h:=⟨a,(f:Int)+1,.slice q d.length s,.slice N (c++ [cY G]).length O⟩) (x:=⟨a,(f:Int)+1,d,c++ [cY G]⟩) J U ⟨rfl,rfl⟩ (b.msub ms)⟩
 ·rw[if_neg P] at y
  refine aj ?_
  refine ef rfl (fX (v:= .int .i64 (f:Int)) (j:=1) z fc rfl) ?_
  refine dR (tV rfl rfl rfl (by omega)) rfl rfl ?_
  refine aC ?_
  refine aC ?_
  refine oE (mY (α:=aF) ⟨a,f,.slice q d.length s,.slice D c.length A⟩ ⟨a,(f:Int)+1,.slice q d.length s,.slice D c.length A⟩ z fc ⟨⟨M.1.1,a0⟩,rfl,rfl⟩ aZ rfl rfl rfl rfl rfl rfl rfl rfl) (fun _ _=>aj ?_)
  refine fR (ew rfl rfl rfl Tryz.call218 (fun w b=>Rg (H:=ak I [.int .i64 0] 213::H) gd n k J U u.Af q D C u.cf s A E u ⟨k.map Prod.snd++ [(⟨a,f,d,c⟩:aK)],i,r,l,F,p⟩ a ((f:Int)+1) d c W fs L Z bb b2 bp (by omega) V ad w (b.msub ms))) rfl rfl (fun cd b7 w bf bv=>by obtain⟨⟨a2,a7,rfl⟩,a8⟩:=bv;exact E3 bf (fun _=>by simp[go_sem]) (Mi I a2 w (a8.perm fc)) Gb (rM .a MQ rfl) (fun w b=>⟨.inr a2,y.trans a7,rfl,b.msub ms⟩)) (fun⟨b3,b4⟩ b0=>?_)
  try dsimp only
  refine bL ?_
  refine cE ?_
  refine bQ ?_
  refine dN (dk _ fc U4 rfl rfl rfl rfl rfl (by rfl) rfl (by rfl)) rfl rfl (fun _ _=>?_)
  refine bL ?_
  refine iQ ?_
  refine Bs (fun _=>by simp[go_sem]) (fun w b=>vv I _ w (b.perm fc)) Gb (rM .a MQ rfl) (fun w b=>?_)
  exact⟨.inl (b3,b4),y.trans b0,rfl,b.msub ms⟩
end
end
section
theorem Ks {fs:List aw} {m:av} {a:Int} (h:mO fs m= .inl a):1<=a/\a<=5:=by
 unfold mO at h
 split at h
 ·split at h <;> cases h
 have:=zo h;omega
theorem Cl {fs:List aw} {m:av} {a:Int} (b:¬m.S=2) (h2:¬m.S=3) (h:mO fs m= .inl a):eV fs m= {m with S:=3,T:=a} :=by
 unfold eV;rw[if_neg (fun h=>h.elim b h2),h]
theorem sN {fs:List aw} {m a:av} (b:¬m.S=2) (h2:¬m.S=3) (h:mO fs m= .inr a):eV fs m=a:=by
 unfold eV;rw[if_neg (fun h=>h.elim b h2),h]
theorem P4 (k:Option Addr) (l:Nat) (fs:List aw) (a:MA) (m b:av) (j:eV fs m=b) (w:World) (v:Sl w (ac k fs.length l) fs) (i:fV w.heap.size w a m) (h:xr m) (n:¬(m.S=2\/m.S=3)->∃li x p,F7 fs m li x p) :
  Calls Tryz.prog 114 #[.agg #[ac k fs.length l],.agg #[ac a.Af m.F.length a.cf,ac a.Ab m.B.length a.cb,ac a.Ai m.I.length a.ci,ac a.Ao m.out.length a.co,ai m.S,ai m.T]] w fun e w'=> ∃g:MA,True/\
   e= .returned (.agg #[ac g.Af b.F.length g.cf,ac g.Ab b.B.length g.cb,ac g.Ai b.I.length g.ci,ac g.Ao b.out.length g.co,ai b.S,ai b.T])/\
   Cw w.heap.size w [an (ac g.Af b.F.length g.cf) b.F,an (ac g.Ab b.B.length g.cb) b.B,an (ac g.Ai b.I.length g.ci) b.I,an (ac g.Ao b.out.length g.co) b.out] w':=by
 refine enter Tryz.func114 rfl Tryz.ntmps114 rfl<|aj ?_;refine fun C _=>aj ?_;refine fun D _=>aj ?_;refine fun E _=>dh 11 (fun d=>?_) (fun d=>?_)
 ·have d:=of_decide_eq_true d;have e:m=b:=by rw[<-j];unfold eV;rw[if_pos (.inl d)]
  subst e;refine aj ?_;refine be rfl<|aj ?_;refine eu rfl rH (fun w c=>mX a m w (fV.ro c i) h) (fun g _=>aj ?_);intro w c;exact⟨g,trivial,rfl,c.msub ms⟩
 have d:=of_decide_eq_false d;refine ax (fun f=>?_) (fun f=>?_)
 ·have e:m=b:=by rw[<-j];unfold eV;rw[if_pos (.inr f)]
  subst e;refine aj ?_;refine eu rfl rH (fun w c=>mX a m w (fV.ro c i) h) (fun g _=>aj ?_);intro w c;exact⟨g,trivial,rfl,c.msub ms⟩
 obtain⟨li,x,p,n⟩:=n (fun u=>u.elim d f);refine aj ?_;refine bq [0,6,5,9,14,16] [4,5] rfl<|aj ?_;refine jc rfl rfl rH (fun w c=>mX a m w (fV.ro c i) h) (fun g _=>aj ?_);refine fun s _=>aj ?_;refine du rfl Tryz.call161 (fun w c=>Lq s g m k l fs v li x p n w (c.msub (.s fc (.s fc (.s fc (.s fc (.s fc .r))))))) (fun r o=>aj ?_);rcases r with ⟨y,z⟩ | q
 ·have e:y=b:=by rw[<-j];exact(sN d f o).symm
  subst e;dsimp only[Sd,Sf];refine cT (t:=26) (v':= .bool false) rfl rfl<|cA rfl<|aj ?_;intro w c;exact⟨z,trivial,rfl,c.msub ms⟩
 have e:=Cl d f o;have:=Ks o;rw[j] at e;subst e;dsimp only[Sd,Sf];refine cT (t:=26) (v':= .bool true) rfl (by show Value.bool (!decide (q=0))= .bool true;rw[decide_eq_false (show¬q=0 by omega)];rfl) ?_;refine be rfl<|aj ?_;refine eu rfl rH (fun w c=>mX a m w (fV.ro c i) h) (fun A _=>aj ?_);refine fun F _=>aj ?_;intro w c;exact⟨A,trivial,rfl,c.msub ms⟩
end
