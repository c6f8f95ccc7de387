/- Lemmas of one proof. -/
import Derived.Test.YthfkmcbblnbfaaaGreatDoorM90E
import Derived.Test.YthfkmcbblnbfaaaGreatDoorM0E
import Derived.Tactics
import Derived.Tactics2
import Derived.Laws.Pointers
import Derived.Test.YthfkmcbblnbfaaaGreatDoorM38E
import Derived.Test.YthfkmcbblnbfaaaGreatDoorM21E

namespace Go.Proofs.YthfkmcbblnbfaaaGreatDoor
set_option maxRecDepth 100000
set_option maxHeartbeats 16000000
open Go.RowKit
section
theorem Fj (a:Int) (w:World):(binOp .neq 20 (.iface 213 (ai a)) .nilIface).run Tryz.prog w= .ok (.bool true) w:=by kernel_rfl
theorem AJ (w:World):(binOp .neq 20 .nilIface .nilIface).run Tryz.prog w= .ok (.bool false) w:=by kernel_rfl
theorem AM (a:Int) (w:World):(Instr.typeAssert (.iface 213 (ai a)) 20 213 true).run Tryz.prog w= .ok (.tuple #[ai a,.bool true]) w:=by kernel_rfl
section
variable {B:Nat} {w0:World} {H:List aP}
theorem LM (g:Nat) (b:Int) (w:World) (c:Cw B w0 (ak g [.int .i64 0] 213::H) w) :
  CallsD Tryz.prog 215 #[.pointer (some ⟨g,0,none⟩)] (.panicking (se b)) w fun e i w'=>(∃v,e= .returned v) /\ settle i= .returning /\ Cw B w0 (ak g [.int .i64 b] 213::H) w':=by
 refine callsD_of_wpS Tryz.func215 rfl fun l k f=>?_
 apply wpS_seq
 apply wpS_region
 simp[wpOpsS,go_sem,recoverD,f,Tryz.ntmps215,Exit.thenS,se]
 refine wpS_of_wp ?_
 refine(show CW Tryz.prog ⟨16,[]⟩ B w0 _ _ [(0,.pointer (some ⟨g,0,none⟩)),(1,.iface 213 (.int .i64 b))] (ak g [.int .i64 0] 213::H) from ?_) _ w ?_ c
 ·refine aj ?_
  refine sE (pN rfl rfl rfl (Fj b) (fun _=>rfl))<|aj ?_
  refine aZ rfl<|aj ?_
  refine sE (zw (AM b) rfl rfl)<|aj ?_
  refine cN (t:=13) (v':= .bool false) rfl (rfl) ?_
  refine bY rfl<|aj ?_
  intro j w d c
  refine⟨d.2.1,_,rfl,.tuple #[],?_,⟨_,rfl⟩,rfl,c.msub ms⟩
  simp[results,Tryz.results215]
 ·refine⟨by simp,rfl,fun h v e=>?_⟩
  simp only[lk] at e
  split at e
  ·rename_i a
   have a:=cB a
   subst a
   injection e with e
   subst e
   exact⟨by show _<16;decide,by simp⟩
  ·split at e
   ·rename_i a
    have a:=cB a
    subst a
    injection e with e
    subst e
    exact⟨by show _<16;decide,by simp⟩
   ·cases e
theorem uV (g:Nat) (c:Value) (w:World) (b:Cw B w0 (ak g [c] 213::H) w) :
  CallsD Tryz.prog 215 #[.pointer (some ⟨g,0,none⟩)] .returning w fun e i w'=>(∃v,e= .returned v) /\ i= .returning /\ Cw B w0 (ak g [c] 213::H) w':=by
 refine callsD_of_wpS Tryz.func215 rfl fun l k d=>?_
 apply wpS_seq
 apply wpS_region
 simp[wpOpsS,go_sem,recoverD,d,Tryz.ntmps215,Exit.thenS]
 refine wpS_of_wp ?_
 refine(show CW Tryz.prog ⟨16,[]⟩ B w0 _ _ [(0,.pointer (some ⟨g,0,none⟩)),(1,.nilIface)] (ak g [c] 213::H) from ?_) _ w ?_ b
 ·refine aj ?_
  refine sE (pN rfl rfl rfl AJ (fun _=>rfl))<|aj ?_
  refine cN (t:=6) (v':= .bool false) rfl (rfl) ?_
  refine bY rfl<|aj ?_
  intro j w f b
  refine⟨f.2.1,.returning,?_,.tuple #[],?_,⟨_,rfl⟩,rfl,b.msub ms⟩
  ·rw[←d]
  ·simp[results,Tryz.results215]
 ·refine⟨by simp,rfl,fun h v e=>?_⟩
  simp only[lk] at e
  split at e
  ·rename_i a
   have a:=cB a
   subst a
   injection e with e
   subst e
   exact⟨by show _<16;decide,by simp⟩
  ·split at e
   ·rename_i a
    have a:=cB a
    subst a
    injection e with e
    subst e
    exact⟨by show _<16;decide,by simp⟩
   ·cases e
end
end
section
structure Fp (fs:List aw) (m:av) (li:List aL) (x:aL) (kf:Nat):Prop where
 fr:m.F=li++ [x]
 fn:x.func=kf
 hkf:kf<fs.length
 pc:0<=x.pc/\x.pc<(ar fs kf).C.length
 nd:uZ fs m.B.length {x with pc:=x.pc+1} (bE (ar fs kf).C x.pc.toNat)
 bl:cH m.B=0
 sl:x.K.length<=900
 st:∀y∈li,y.K.length<=1000
 ol:m.out.length<=1000
 n6:li.length<=1000
 oa:aI (bE (ar fs kf).C x.pc.toNat).a
 cl:(ar fs kf).C.length<=1000
def RA:(av×MA)⊕Int->Int
 | .inl _=>0
 | .inr why=>why
def U4:(av×MA)⊕Int->Int⊕av
 | .inl r=> .inr r.1
 | .inr why=> .inl why
def RC (gd:Nat) (pv:Value) (T:TypeId) (H:List aP):(av×MA)⊕Int->List aP
 | .inl r=>ak gd [.slice r.2.Af r.1.F.length r.2.cf,.slice r.2.Ab r.1.B.length r.2.cb,.slice r.2.Ai r.1.I.length r.2.ci,.slice r.2.Ao r.1.out.length r.2.co,.int .i64 r.1.S,.int .i64 r.1.T,pv] T::
   an (.slice r.2.Af r.1.F.length r.2.cf) r.1.F::an (.slice r.2.Ab r.1.B.length r.2.cb) r.1.B::an (.slice r.2.Ai r.1.I.length r.2.ci) r.1.I::an (.slice r.2.Ao r.1.out.length r.2.co) r.1.out::H
 | .inr _=>H
theorem KX {α β:Type} {f:α->β} {l:List α} {a:List β} {b:β} (h:l.map f=a++ [b]):∃d q,l=d++ [q]/\d.map f=a/\f q=b:=by
 rcases eZ l with c | ⟨d,q,c⟩
 ·rw[c] at h;simp at h
 have c:l=d++ [q]:=by rw[c];simp
 subst c;rw[cS] at h;obtain⟨g,e⟩:=List.append_inj' h rfl;simp at e;exact⟨d,q,rfl,g,e⟩
section
variable {B:Nat} {w0:World} {H:List aP}
theorem HI {P:Program} {n:NF} {Q:Exit->Act->World->Prop} {r:cM} {x:Code} {H':List aP} {A:Option Addr} {c:Nat} {li:List aL} {y:aL} (D:cg H (an (ac A (li++ [y]).length c) (li++ [y])) H')
  (h:∀(l:List (aG×aL)) (d e:Option Addr) (f cs:Nat),l.map Prod.snd=li->hU l->CW P n B w0 x Q r (an (ac A (li++ [y]).length c) (l.map Prod.fst++ [(⟨y.func,y.pc,ac d y.L.length f,ac e y.K.length cs⟩:aG)])::an (ac e y.K.length cs) y.K::an (ac d y.L.length f) y.L::cO l::H')) :
  CW P n B w0 x Q r H:=by
 refine LH D fun l w s=>?_;obtain⟨p,⟨g,a⟩,rfl,z,o⟩:=KX w;have o:a=y:=o;subst o;have C:g.func=a.func/\g.pc=a.pc:=s (g,a) σ;obtain⟨t,u,k,m⟩:=g;obtain⟨i,j⟩:=C;have i:t=a.func:=i;have j:u=a.pc:=j;subst i j;refine db (fun q b=>yA (b.msub (T:=cO (p++ [(⟨a.func,a.pc,k,m⟩,a)])::an (ac A (li++ [a]).length c) ((p++ [((⟨a.func,a.pc,k,m⟩:aG),a)]).map Prod.fst)::H') ms)) ?_;refine ei (fun q b=>b.oform (v:=m) (xs:=a.K) .b) ?_;rintro⟨e,cs,rfl⟩;refine ei (fun q b=>b.oform (v:=k) (xs:=a.L) .a) ?_;rintro⟨d,f,rfl⟩;simp only[cS,eL,iG];refine db (fun q b=>?_) (h p d e f cs z s.left);exact b.msub ms
theorem KS (gd:Nat) (a:MA) (m:av) (C:Option Addr) (E:Nat) (fs:List aw) (L:bN w0 B (.slice C fs.length E) fs) (p:List aL) (x:aL) (b:Nat) (a9:Fp fs m p x b) (w:World)
  (c:Cw B w0 (ak gd [.slice a.Af m.F.length a.cf,.slice a.Ab m.B.length a.cb,.slice a.Ai m.I.length a.ci,.slice a.Ao m.out.length a.co,.int .i64 m.S,.int .i64 m.T,.slice C fs.length E] 212::
   an (.slice a.Af m.F.length a.cf) m.F::an (.slice a.Ab m.B.length a.cb) m.B::an (.slice a.Ai m.I.length a.ci) m.I::an (.slice a.Ao m.out.length a.co) m.out::H) w) :
  Calls Tryz.prog 161 #[.pointer (some ⟨gd,0,none⟩)] w fun e w'=> ∃g,mx fs m=U4 g /\ e= .returned (.int .i64 (RA g)) /\ Cw B w0 (RC gd (.slice C fs.length E) 212 H g) w':=by
 obtain⟨S,R,bi,al,bo,ba,b3,V,bs,Y,bp,ci⟩:=a9
 obtain⟨a6,k,s,n,F,q⟩:=m
 obtain⟨a3,i,f,d⟩:=x
 have S:a6=p++ [⟨a3,i,f,d⟩]:=S
 subst S
 have R:a3=b:=R
 subst R
 have al:0 <= i /\ i<(ar fs b).C.length:=al
 have b4:d.length <= 900:=b3
 have bb:cH k=0:=ba
 have bt:n.length <= 1000:=bs
 have ad:aI (bE (ar fs b).C i.toNat).a:=bp
 have Z:uZ fs k.length ⟨b,i+1,f,d⟩ (bE (ar fs b).C i.toNat):=bo
 have bk:(p++ [(⟨b,i,f,d⟩:aL)]).length=p.length+1:=by simp
 have bv:aY fs ⟨p++ [⟨b,i,f,d⟩],k,s,n,F,q⟩=bE (ar fs b).C i.toNat:=by
  unfold aY im
  simp
 have y:mx fs ⟨p++ [⟨b,i,f,d⟩],k,s,n,F,q⟩=if (bE (ar fs b).C i.toNat).c=21 then
   (if s= [] then .inr ⟨p++ [⟨b,i,f,d⟩],k,s,n,1,q⟩
   else .inr ⟨p++ [⟨b,i+1,f,d++ [cQ (s.getD 0 0)]⟩],k,s.drop 1,n,0,q⟩)
   else bM fs ⟨p++ [⟨b,i,f,d⟩],k,s,n,F,q⟩ p ⟨b,i+1,f,d⟩ (bE (ar fs b).C i.toNat):=by
  unfold mx
  rw[bv]
  unfold im
  simp
 obtain⟨W,T⟩:∃W,bE (ar fs b).C i.toNat=W:=⟨_,rfl⟩
 rw[T] at Z ad y
 obtain⟨b7,cd,b8,ce,cl,Q,cj,bc⟩:=L.fn bi
 refine Ag Tryz.func161 rfl Tryz.ntmps161 rfl c ?_
 dsimp only
 refine HI fc fun l r D u A bl U=>?_
 rw[bk]
 subst bl
 rw[aQ]
 have ck:l.length <= 1000:=by rw[aQ] at Y;exact Y
 have V:∀X∈l,X.2.K.length <= 1000:=fun X b1=>V X.2 (lZ b1)
 obtain⟨o,J⟩:∃o,l.length=o:=⟨_,rfl⟩
 rw[J]
 have z:(l.map Prod.fst).length=o:=by rw[aQ];exact J
 have bm:∀K:aG,(l.map Prod.fst++ [K]).length=o+1:=fun K=>by rw[au,z];rfl
 refine ei (fun w c=>tK c .a) ?_
 intro M
 have M:aG.wf _:=M
 have a0:aI (i+1):=by unfold aI;omega
 have cb:=bA L
 have ca:=bA Q
 obtain⟨h,am⟩:∃h:Nat,i=h:=⟨i.toNat,by omega⟩
 subst am
 rw[bq] at T
 have am:h<(ar fs b).C.length:=by omega
 refine aj ?_
 refine fun I _=>aj ?_
 refine DK rfl rfl rfl rfl ?_
 refine aj ?_
 refine cE rfl Fz (fun w c=>rK gd o a.cf a.Af (l.map Prod.fst++ [(⟨b,h,.slice r f.length u,.slice D d.length A⟩:aG)]) w (gQ fc rfl w c) (mX c fc) (SF.at_ (SF.own (bm _) fc) c))<|aj ?_
 refine bh [0,3,6,9,12,15,18,21,24,27,30,33,36,39,42,45,48,51,56,59] [19] rfl<|aj ?_
 refine tE rfl (bU (fY (j:=0) z fc rfl) rfl rfl bB) ?_
 refine tE rfl (aW (k:=b) eR fx (.ro L) (by omega) rfl rfl rfl)<|aj ?_
 refine tE rfl (bU (fun w c=>bc _ w c 3 _ rfl) rfl rfl rh)<|aj ?_
 refine tE rfl (bU (fY (j:=1) z fc rfl) rfl rfl bB) ?_
 refine tE rfl (aW (k:=h) eF gK (.ro Q) (by omega) rfl rfl rfl) ?_
 refine tE rfl (eC (cs:= [_,_]) (SF.op (.ro Q) (by omega)) rfl rfl yW gK)<|aj ?_
 refine fun ch _=>aj ?_
 rw[T]
 refine eI rfl (fun P=>?_) (fun P=>?_)
 ·rw[if_pos P] at y
  rcases s with _ | ⟨G,a1⟩
  ·rw[if_pos rfl] at y
   refine aj ?_
   refine dA rfl Tryz.call217 (fun w c=>F9 gd (.slice a.Af (o+1) a.cf) (.slice a.Ab k.length a.cb) (.slice a.Ao n.length a.co) (.int .i64 q) (.slice C fs.length E) a.Ai a.ci F w (c.msub (.s fc .r))) (fun _ _=>aj ?_)
   refine cN (t:=30) (v':= .bool false) rfl (rfl) ?_
   refine bY rfl ?_
   refine fk (fh ?_)
   refine cn ?_
   refine bK ?_
   refine dE (cV _ fc UC rfl rfl rfl rfl rfl (by rfl) rfl (by rfl)) rfl rfl (fun _ _=>?_)
   refine bG ?_
   refine iO (fB ?_)
   refine AR (fun _=>by simp[go_sem]) (fun w c=>uV I _ w (c.perm fc)) Fv (rp .a Mj rfl) (fun w c=>?_)
   exact⟨.inl (⟨l.map Prod.snd++ [(⟨b,h,f,d⟩:aL)],k,[],n,1,q⟩,a),y,rfl,jw (h:=⟨b,h,.slice r f.length u,.slice D d.length A⟩) (x:=⟨b,h,f,d⟩) J U ⟨rfl,rfl⟩ (c.msub ms)⟩
  ·rw[if_neg (by simp)] at y
   refine aj ?_
   refine dA rfl Tryz.call217 (fun w c=>F8 gd o (l.map Prod.fst) z a.Af D a.Ai a.cf A a.ci (.slice a.Ab k.length a.cb) (.slice a.Ao n.length a.co) (.int .i64 q) (.slice C fs.length E) F b h (.slice r f.length u) d G a1 w (by omega) (c.msub (.s fc (.s fc (.s fc (.s fc .r)))))) (fun⟨⟨N,O⟩,⟨a4,a5⟩⟩ _=>?_)
   refine aO ?_
   refine cN (t:=30) (v':= .bool true) rfl (rfl) ?_
   refine aZ rfl<|aj ?_
   refine eK rfl (fY (v:= .int .i64 (h:Int)) (j:=1) z fc rfl) ?_
   refine dG (rF rfl rfl rfl (by omega)) rfl rfl ?_
   refine aC ?_
   refine aC ?_
   refine oE (mK (α:=aG) ⟨b,h,.slice r f.length u,.slice N (d++ [cQ G]).length O⟩ ⟨b,(h:Int)+1,.slice r f.length u,.slice N (d++ [cQ G]).length O⟩ z fc ⟨⟨M.1.1,a0⟩,rfl,rfl⟩ bg rfl rfl rfl rfl rfl rfl rfl rfl) (fun _ _=>?_)
   refine bG ?_
   refine cn ?_
   refine bK ?_
   refine dE (cV _ fc UC rfl rfl rfl rfl rfl (by rfl) rfl (by rfl)) rfl rfl (fun _ _=>?_)
   refine bG ?_
   refine iO (fB ?_)
   refine AR (fun _=>by simp[go_sem]) (fun w c=>uV I _ w (c.perm fc)) Fv (rp .a Mj rfl) (fun w c=>?_)
   exact⟨.inl (⟨l.map Prod.snd++ [(⟨b,(h:Int)+1,f,d++ [cQ G]⟩:aL)],k,a1,n,0,q⟩,⟨a.Af,a.cf,a.Ab,a.cb,a4,a5,a.Ao,a.co⟩),y,rfl,jw (h:=⟨b,(h:Int)+1,.slice r f.length u,.slice N (d++ [cQ G]).length O⟩) (x:=⟨b,(h:Int)+1,f,d++ [cQ G]⟩) J U ⟨rfl,rfl⟩ (c.msub ms)⟩
 ·rw[if_neg P] at y
  refine aj ?_
  refine eK rfl (fY (v:= .int .i64 (h:Int)) (j:=1) z fc rfl) ?_
  refine dG (rF rfl rfl rfl (by omega)) rfl rfl ?_
  refine aC ?_
  refine aC ?_
  refine oE (mK (α:=aG) ⟨b,h,.slice r f.length u,.slice D d.length A⟩ ⟨b,(h:Int)+1,.slice r f.length u,.slice D d.length A⟩ z fc ⟨⟨M.1.1,a0⟩,rfl,rfl⟩ bg rfl rfl rfl rfl rfl rfl rfl rfl) (fun _ _=>aj ?_)
  refine fS (ef rfl rfl rfl Tryz.call218 (fun w c=>QK (H:=ak I [.int .i64 0] 213::H) gd o l J U a.Af r D C a.cf u A E a ⟨l.map Prod.snd++ [(⟨b,h,f,d⟩:aL)],k,s,n,F,q⟩ b ((h:Int)+1) f d W fs L Z bb b4 bt (by omega) V ad w (c.msub ms))) rfl rfl (fun cf b9 w bf b0=>by obtain⟨⟨a2,a7,rfl⟩,a8⟩:=b0;exact Ew bf (fun _=>by simp[go_sem]) (LM I a2 w (a8.perm fc)) Fv (rp .a Mj rfl) (fun w c=>⟨.inr a2,y.trans a7,rfl,c.msub ms⟩)) (fun⟨b5,b6⟩ b2=>?_)
  try dsimp only
  refine bG ?_
  refine cn ?_
  refine bK ?_
  refine dE (cV _ fc UC rfl rfl rfl rfl rfl (by rfl) rfl (by rfl)) rfl rfl (fun _ _=>?_)
  refine bG ?_
  refine iO ?_
  refine AR (fun _=>by simp[go_sem]) (fun w c=>uV I _ w (c.perm fc)) Fv (rp .a Mj rfl) (fun w c=>?_)
  exact⟨.inl (b5,b6),y.trans b2,rfl,c.msub ms⟩
end
end
section
theorem JU {fs:List aw} {m:av} {a:Int} (h:mx fs m= .inl a):1<=a/\a<=5:=by
 unfold mx at h
 split at h
 ·split at h <;> cases h
 have:=yS h;omega
theorem BP {fs:List aw} {m:av} {a:Int} (b:¬m.S=2) (h2:¬m.S=3) (h:mx fs m= .inl a):eX fs m= {m with S:=3,T:=a} :=by
 unfold eX;rw[if_neg (fun h=>h.elim b h2),h]
theorem sg {fs:List aw} {m a:av} (b:¬m.S=2) (h2:¬m.S=3) (h:mx fs m= .inr a):eX fs m=a:=by
 unfold eX;rw[if_neg (fun h=>h.elim b h2),h]
theorem PA (k:Option Addr) (l:Nat) (fs:List aw) (a:MA) (m b:av) (j:eX fs m=b) (w:World) (v:Sl w (ac k fs.length l) fs) (i:fZ w.heap.size w a m) (h:BA m) (n:¬(m.S=2\/m.S=3)->∃li x p,Fp fs m li x p) :
  Calls Tryz.prog 114 #[.agg #[ac k fs.length l],.agg #[ac a.Af m.F.length a.cf,ac a.Ab m.B.length a.cb,ac a.Ai m.I.length a.ci,ac a.Ao m.out.length a.co,ai m.S,ai m.T]] w fun e w'=> ∃g:MA,True/\
   e= .returned (.agg #[ac g.Af b.F.length g.cf,ac g.Ab b.B.length g.cb,ac g.Ai b.I.length g.ci,ac g.Ao b.out.length g.co,ai b.S,ai b.T])/\
   Cw w.heap.size w [an (ac g.Af b.F.length g.cf) b.F,an (ac g.Ab b.B.length g.cb) b.B,an (ac g.Ai b.I.length g.ci) b.I,an (ac g.Ao b.out.length g.co) b.out] w':=by
 refine enter Tryz.func114 rfl Tryz.ntmps114 rfl<|aj ?_;refine fun C _=>aj ?_;refine fun D _=>aj ?_;refine fun E _=>cR 11 (fun d=>?_) (fun d=>?_)
 ·have d:=of_decide_eq_true d;have e:m=b:=by rw[<-j];unfold eX;rw[if_pos (.inl d)]
  subst e;refine aj ?_;refine aZ rfl<|aj ?_;refine et rfl rj (fun w c=>mJ a m w (fZ.ro c i) h) (fun g _=>aj ?_);intro w c;exact⟨g,trivial,rfl,c.msub ms⟩
 have d:=of_decide_eq_false d;refine ax (fun f=>?_) (fun f=>?_)
 ·have e:m=b:=by rw[<-j];unfold eX;rw[if_pos (.inr f)]
  subst e;refine aj ?_;refine et rfl rj (fun w c=>mJ a m w (fZ.ro c i) h) (fun g _=>aj ?_);intro w c;exact⟨g,trivial,rfl,c.msub ms⟩
 obtain⟨li,x,p,n⟩:=n (fun u=>u.elim d f);refine aj ?_;refine bh [0,6,5,9,14,16] [4,5] rfl<|aj ?_;refine kL rfl rfl rj (fun w c=>mJ a m w (fZ.ro c i) h) (fun g _=>aj ?_);refine fun s _=>aj ?_;refine dA rfl Tryz.call161 (fun w c=>KS s g m k l fs v li x p n w (c.msub (.s fc (.s fc (.s fc (.s fc (.s fc .r))))))) (fun r o=>aj ?_);rcases r with ⟨y,z⟩ | q
 ·have e:y=b:=by rw[<-j];exact(sg d f o).symm
  subst e;dsimp only[RA,RC];refine cN (t:=26) (v':= .bool false) rfl rfl<|bY rfl<|aj ?_;intro w c;exact⟨z,trivial,rfl,c.msub ms⟩
 have e:=BP d f o;have:=JU o;rw[j] at e;subst e;dsimp only[RA,RC];refine cN (t:=26) (v':= .bool true) rfl (by show Value.bool (!decide (q=0))= .bool true;rw[decide_eq_false (show¬q=0 by omega)];rfl) ?_;refine aZ rfl<|aj ?_;refine et rfl rj (fun w c=>mJ a m w (fZ.ro c i) h) (fun A _=>aj ?_);refine fun F _=>aj ?_;intro w c;exact⟨A,trivial,rfl,c.msub ms⟩
end
