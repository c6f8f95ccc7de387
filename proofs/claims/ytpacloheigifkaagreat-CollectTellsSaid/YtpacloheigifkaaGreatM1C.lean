/- Texts of one proof, one behind the other: lemmas alone. -/

namespace Go.Proofs.YtpacloheigifkaaGreat
section
structure bT where
 c:Int
 a:Int
instance:Inhabited bT:=⟨⟨0,0⟩⟩
instance:DecidableEq bT:=fun x y=>decidable_of_iff (x.c=y.c∧x.a=y.a) ⟨fun⟨h1,h2⟩=>by cases x;cases y;simp_all,fun h=>by simp[h]⟩
def names (c:Int):Bool:=decide (c=1) || (decide (c=8) || (decide (c=9) || (decide (c=10) || (decide (c=11) || decide (c=12)))))
def iI (c:Int):Bool:=decide (1≤c) && decide (c≤21)
def cW (n:Int):Bool:=decide (-2147483648≤n) && decide (n≤2147483647)
def ee (o:bT):Int:=if !iI o.c then 6 else if !names o.c && o.a != 0 then 1 else if !cW o.a then 3 else 0
def iL (n:Int):Int:=(n+2147483648) % 4294967296 - 2147483648
def eA (n:Int):List UInt8:=
 [UInt8.ofNat (n % 4294967296 / 16777216).toNat,UInt8.ofNat (n % 4294967296 / 65536 % 256).toNat,UInt8.ofNat (n % 4294967296 / 256 % 256).toNat,UInt8.ofNat (n % 256).toNat]
def yq (l:List UInt8):Int:=l.foldl (fun u c=>(u*256+c.toNat) % 4294967296) 0
def fR (l:List UInt8):Int:=iL (yq l)
def dO:List bT→Int
 | []=>0
 | o::l=>if ee o != 0 then ee o else dO l
def dJ (l:List bT):Int:=if l.length > 40 then 2 else dO l
def jK (o:bT):List UInt8:=UInt8.ofNat (o.c % 256).toNat::(if names o.c then eA o.a else [])
def dc (l:List bT):List UInt8:=l.flatMap jK
def mU (l:List bT):List UInt8×Int:=if dJ l != 0 then ([],dJ l) else (dc l,0)
def gK (l:List UInt8) (n:Int):List UInt8×List UInt8×Bool:=if (l.length:Int)<n then ([],[],false) else (l.take n.toNat,l.drop n.toNat,true)
def e9 (b:UInt8) (l:List UInt8):bT×List UInt8×Bool:=
 if !iI b.toNat then (⟨b.toNat,0⟩,l,false) else if !names b.toNat then (⟨b.toNat,0⟩,l,true) else
 (⟨b.toNat,if (gK l 4).2.2 then fR (gK l 4).1 else 0⟩,(gK l 4).2.1,(gK l 4).2.2)
def eC:Nat→List UInt8→List bT→List bT×Int
 | _,[],out=>(out,0)
 | 0,_::_,_=>([],1)
 | k+1,b::l,out=>
  if !(e9 b l).2.2 then ([],1) else if out.length == 40 then ([],2) else eC k (e9 b l).2.1 (out++ [(e9 b l).1])
def eK (l:List UInt8):List bT×Int:=eC l.length l []
end
section
theorem gt (n:Nat) (h:n<256):(UInt8.ofNat n).toNat=n:=by simp[UInt8.toNat_ofNat'];omega
theorem qw (a:Int) (h:cW a=true):fR (eA a)=a:=by
 simp[cW] at h
 have e0:=gt (a % 4294967296 / 16777216).toNat (by omega)
 have e1:=gt (a % 4294967296 / 65536 % 256).toNat (by omega)
 have e2:=gt (a % 4294967296 / 256 % 256).toNat (by omega)
 have e3:=gt (a % 256).toNat (by omega)
 simp only[fR,eA,yq,List.foldl_cons,List.foldl_nil,e0,e1,e2,e3,iL]
 omega
theorem qz (b0 b1 b2 b3:UInt8):eA (fR [b0,b1,b2,b3])= [b0,b1,b2,b3]:=by
 have h0:=b0.toNat_lt
 have h1:=b1.toNat_lt
 have h2:=b2.toNat_lt
 have h3:=b3.toNat_lt
 have key:∀(b:UInt8) (n:Int),n=b.toNat→UInt8.ofNat n.toNat=b:=by
  intro b n h;subst h;simp
 have hn:fR [b0,b1,b2,b3] % 4294967296=((((b0.toNat:Int)*256+b1.toNat)*256+b2.toNat)*256+b3.toNat):=by
  simp only[fR,yq,List.foldl_cons,List.foldl_nil,iL];omega
 generalize fR [b0,b1,b2,b3]=n at *
 rw[eA,key b0 (n % 4294967296 / 16777216) (by omega),key b1 (n % 4294967296 / 65536 % 256) (by omega),key b2 (n % 4294967296 / 256 % 256) (by omega),key b3 (n % 256) (by omega)]
theorem pP (l:List UInt8):cW (fR l)=true:=by
 have h: -2147483648≤fR l∧fR l≤2147483647:=by unfold fR iL;omega
 simp[cW,h.1,h.2]
theorem qA (o:bT) (h:iI o.c=true∧(names o.c=true∨o.a=0)∧cW o.a=true) (r:List UInt8) :
  ∃b t,jK o=b::t∧e9 b (t++r)=(o,r,true):=by
 obtain⟨hc,hn,hi⟩:=h
 have hcc:=hc
 simp[iI] at hcc
 have hb:((UInt8.ofNat (o.c % 256).toNat).toNat:Int)=o.c:=by rw[gt _ (by omega)];omega
 refine⟨_,_,rfl,?_⟩
 obtain⟨c,a⟩:=o
 simp only at hc hn hi hb⊢
 unfold e9
 rw[hb,hc]
 cases hnn:names c with
 | false=>
  have:a=0:=by
   rcases hn with h | h;· rw[h] at hnn;cases hnn
   ·exact h
  subst this
  simp
 | true=>
  have h4:¬((eA a++r).length:Int)<4:=by simp[eA];omega
  have ht:(eA a++r).take 4=eA a:=by simp[eA]
  have hd:(eA a++r).drop 4=r:=by simp[eA]
  have hcut:gK (eA a++r) 4=(eA a,r,true):=by
   unfold gK;rw[if_neg h4]
   show ((eA a++r).take 4,(eA a++r).drop 4,true)=_
   rw[ht,hd]
  simp[hcut,qw a hi]
theorem qH (b:UInt8) (l:List UInt8) (h:(e9 b l).2.2=true):ee (e9 b l).1=0∧b::l=jK (e9 b l).1++(e9 b l).2.1:=by
 have hb8:=b.toNat_lt
 have hbb:UInt8.ofNat ((b.toNat:Int) % 256).toNat=b:=by
  rw[show ((b.toNat:Int) % 256).toNat=b.toNat from by omega];simp
 unfold e9 at h⊢
 cases hc:iI b.toNat with
 | false=>rw[hc] at h;simp at h
 | true=>
  rw[hc] at h
  cases hn:names b.toNat with
  | false=>
   simp only[Bool.not_true,Bool.not_false,if_true]
   refine⟨?_,?_⟩
   ·simp[ee,hc,hn,cW]
   simp[jK,hn,hbb]
  | true=>
   rw[hn] at h
   simp only[Bool.not_true] at h⊢
   by_cases h4:(l.length:Int)<4
   ·have hcut:gK l 4=([],[],false):=by unfold gK;rw[if_pos h4]
    rw[hcut] at h;simp at h
   have hcut:gK l 4=(l.take 4,l.drop 4,true):=by unfold gK;rw[if_neg h4];rfl
   rw[hcut]
   have hl4:∃b0 b1 b2 b3 r,l=b0::b1::b2::b3::r:=by
    match l,h4 with
    | b0::b1::b2::b3::r,_=>exact⟨_,_,_,_,_,rfl⟩
    | [],h=>simp at h
    | [_],h=>simp at h
    | [_,_],h=>simp at h
    | [_,_,_],h=>simp at h
   obtain⟨b0,b1,b2,b3,r,rfl⟩:=hl4
   refine⟨?_,?_⟩
   ·simp[ee,hc,hn,pP]
   simp[jK,hn,hbb,qz]
theorem qE (k:Nat):∀(r:List UInt8) (out res:List bT),eC k r out=(res,0)→out.length≤40→∃new,res=out++new∧dc new=r∧(∀o∈new,ee o=0)∧res.length≤40:=by
 induction k with
 | zero=>
  intro r out res h h40
  cases r with
  | nil=>simp[eC] at h;subst h;exact⟨[],by simp[],by simp[dc],by simp,h40⟩
  | cons b r=>simp[eC] at h
 | succ k ih=>
  intro r out res h h40
  cases r with
  | nil=>simp[eC] at h;subst h;exact⟨[],by simp[],by simp[dc],by simp,h40⟩
  | cons b r=>
   simp only[eC] at h
   split at h
   ·simp at h
   rename_i hok
   split at h
   ·simp at h
   rename_i h41
   obtain⟨h1,h2⟩:=qH b r (by simpa using hok)
   obtain⟨new,e1,e2,e3,e4⟩:=ih _ _ _ h (by simp at h41⊢;omega)
   refine⟨(e9 b r).1::new,by rw[e1];simp,?_,?_,e4⟩
   ·rw[h2,←e2];simp[dc]
   intro o ho
   rcases List.mem_cons.1 ho with rfl | ho
   ·exact h1
   exact e3 o ho
theorem sj {l:List bT} (h:∀o∈l,ee o=0):dO l=0:=by
 induction l with
 | nil=>rfl
 | cons a l ih=>simp[dO,h a (by simp)];exact ih (fun o ho=>h o (by simp[ho]))
theorem qC (s:List UInt8) (h:(eK s).2=0):mU (eK s).1=(s,0):=by
 obtain⟨new,e1,e2,e3,e4⟩:=qE s.length s [] (eK s).1 (by rw[←h];rfl) (by simp)
 simp at e1
 subst e1
 have hc:dJ (eK s).1=0:=by unfold dJ;rw[if_neg (by omega),sj e3]
 simp[mU,hc,e2]
theorem j8:∀(l out:List bT) (k:Nat),(∀o∈l,iI o.c=true∧(names o.c=true∨o.a=0)∧cW o.a=true)→out.length+l.length≤40→(dc l).length≤k→eC k (dc l) out=(out++l,0)
 | [],out,k,_,_,_=>by cases k <;> simp[dc,eC]
 | o::l,out,k,h,h40,hk=>by
  obtain⟨b,t,e1,e2⟩:=qA o (h o (by simp)) (dc l)
  have e3:dc (o::l)=b::(t++dc l):=by simp[dc,e1]
  rw[e3] at hk⊢
  cases k with
  | zero=>simp at hk
  | succ k=>
   have h41:(out.length == 40)=false:=by simp at h40⊢;omega
   simp only[eC,e2,h41]
   have:=j8 l (out++ [o]) k (fun o ho=>h o (by simp[ho])) (by simp at h40⊢;omega) (by simp at hk;omega)
   simpa using this
end
section
def cP (l:List (List Int)):Nat:=(l.map List.length).sum
def dd (b:List Int):Bool:=b.any fun n=>!cW n
def cc (l:List (List Int)):Int:=if 8<l.length∨40<cP l then 2 else if l.any dd then 3 else 0
def jS (l:List (List Int)) (size:Int):Int:=if size<0 then 3 else if l.length=8∨40 - (cP l:Int)<size then 7 else 0
def gV (l:List (List Int)) (size:Int):Int:=if cc l=0 then jS l size else cc l
def od (l:List (List Int)) (size:Int):List (List Int):=if gV l size=0 then l++ [List.replicate size.toNat 0] else []
def uI (l:List (List Int)) (size:Int):Int:=if gV l size=0 then l.length+1 else 0
def blk (l:List (List Int)) (ref:Int):List Int:=l.getD (ref - 1).toNat []
def lJ (l:List (List Int)) (ref at_:Int):Int:=if ref=0 then 5 else if ref<0∨(l.length:Int)<ref∨at_<0∨((blk l ref).length:Int)≤at_ then 3 else 0
def De (l:List (List Int)) (ref at_:Int):Int:=if cc l=0 then lJ l ref at_ else cc l
def DX (l:List (List Int)) (ref at_:Int):Int:=if De l ref at_=0 then (blk l ref).getD at_.toNat 0 else 0
def yj (l:List (List Int)) (ref at_ n:Int):Int:=if lJ l ref at_=0 then (if cW n then 0 else 3) else lJ l ref at_
def pD (l:List (List Int)) (ref at_ n:Int):Int:=if cc l=0 then yj l ref at_ n else cc l
def put (l:List (List Int)) (ref at_ n:Int):List (List Int):=l.set (ref - 1).toNat ((blk l ref).set at_.toNat n)
def uu (l:List (List Int)) (ref at_ n:Int):List (List Int):=if pD l ref at_ n=0 then put l ref at_ n else []
def ck (l:List (List Int)) (refs:List Int):Nat→List (List Int)
 | 0=> []
 | k+1=>ck l refs k++(if refs.contains ((k:Int)+1) then [l.getD k []] else [])
def dC (l:List (List Int)) (refs:List Int) (r:Int):Int:=if r=0 then 0 else (ck l refs r.toNat).length
def uL (l:List (List Int)) (refs:List Int):Int:=if cc l=0 then (if refs.any (fun r=>decide (r<0) || decide ((l.length:Int)<r)) then 3 else 0) else cc l
def DK (l:List (List Int)) (refs:List Int):List (List Int):=if uL l refs=0 then ck l refs l.length else []
def DJ (l:List (List Int)) (refs:List Int):List Int:=if uL l refs=0 then refs.map (dC l refs) else []
theorem iJ (l:List (List Int)) (b:List Int):cP (l++ [b])=cP l+b.length:=by simp[cP]
theorem dL {α:Type} (l:List α) (k:Nat) (d:α) (h:k<l.length):l.take (k+1)=l.take k++ [l.getD k d]:=by
 rw[List.take_add_one,List.getElem?_eq_getElem h,List.getD_eq_getElem?_getD,List.getElem?_eq_getElem h];rfl
theorem nO (l:List (List Int)) (k:Nat) (h:k<l.length):cP (l.take (k+1))=cP (l.take k)+(l.getD k []).length:=by rw[dL l k [] h,iJ]
theorem vj {l:List (List Int)} {b:List Int} (h:b∈l):b.length≤cP l:=by
 induction l with
 | nil=>cases h
 | cons c l ih=>
  simp only[cP,List.map_cons,List.sum_cons] at *
  rcases List.mem_cons.1 h with rfl | h
  ·omega
  have:=ih h;omega
theorem f7 {l:List (List Int)} (h:cc l=0):l.length≤8∧cP l≤40:=by
 unfold cc at h
 split at h
 ·cases h
 omega
end
end Go.Proofs.YtpacloheigifkaaGreat
